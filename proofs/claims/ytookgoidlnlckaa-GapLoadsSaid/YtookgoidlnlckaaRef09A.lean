/- Merged: Ref09, Ref09C. -/
import Derived.Test.YtookgoidlnlckaaGapCkA
import Derived.Test.YtookgoidlnlckaaRef05
import Derived.Test.YtookgoidlnlckaaMay04
namespace Go.Proofs.Ytookgoidlnlckaa
set_option linter.unusedVariables false
set_option linter.unusedSimpArgs false
section
open Go.RowKit Go.Shelf Go.Sort

set_option maxRecDepth 100000 in
theorem Among09_core (w : World) (seg : Int) (wa ka va ca : Option Addr) (wc kc vc cc lw n lv lc : Nat) (laid : Int) (cs : List Int) (A B : Int) (S lo hi : Nat) (hseg : seg = S) (hS : 4 ≤ S) (hS2 : S ≤ 64) (hA : A = ((lo * S : Nat) : Int)) (hB : B = ((hi * S : Nat) : Int)) (h1 : lo ≤ hi) (h2 : hi ≤ lc) (hlc : lc ≤ 65536) (hlen : cs.length = lc) (hcs : CntB cs S) (hcn : IsRow .i64 w ca cs) :
    Calls Try.prog 75 #[.agg #[.int .i64 seg, .slice wa lw wc, .slice ka n kc, .slice va lv vc, .slice ca lc cc, .int .u64 laid], .int .i64 A, .int .i64 B] w (AnsB w (.int .i64 (sumC cs lo hi))) := by
  have tA : A.tdiv seg = lo := by
    rw [hA, hseg, Int.tdiv_eq_ediv_of_nonneg (by omega), ← Int.natCast_ediv, Nat.mul_div_cancel _ (by omega)]
  have tB : B.tdiv seg = hi := by
    rw [hB, hseg, Int.tdiv_eq_ediv_of_nonneg (by omega), ← Int.natCast_ediv, Nat.mul_div_cancel _ (by omega)]
  have hs0 : (seg == 0) = false := by simp; omega
  have hs1 : ¬ seg = 0 := by omega
  have wlo : IntKind.i64.wrap (lo : Int) = lo := IntWalk.i64_in _ (by omega)
  have whi : IntKind.i64.wrap (hi : Int) = hi := IntWalk.i64_in _ (by omega)
  have HN := Lib.hid (hcn.below ((Below.refl _ _).alloc (Nat.le_refl _) (.cells #[.int .i64 seg, .slice wa lw wc, .slice ka n kc, .slice va lv vc, .slice ca lc cc, .int .u64 laid] 29)))
  have HL := Lib.hid hlen
  have HC := Lib.hid hcs
  have HSS := Lib.hid (And.intro hS hS2)
  clear hA hB hseg hcn hlen hcs hS hS2
  go_enter Try.func75, Try.ntmps75
  go_upto_region 1 with (fail)
  generalize hwz : w.alloc (.cells #[.int .i64 seg, .slice wa lw wc, .slice ka n kc, .slice va lv vc, .slice ca lc cc, .int .u64 laid] 29) = wz
  have c_t0 : wz.cell? ⟨w.heap.size, 0, none⟩ = some (.int .i64 seg) := by rw [← hwz]; (first | (with_reducible assumption) | ((simp only [World.frozen?_setCell, World.frozen?_drew, World.frozen?_drewN]) <;> (with_reducible assumption)) | ((repeat (first | (with_reducible assumption) | (with_reducible refine World.cell?_setCell_same _ _ _ (by with_reducible assumption)) | (rw [World.cell?_setCell_other _ _ _ _ (by intro e; simp at e; done)]) | (with_reducible refine cell_setCell_block ?_ ?_) | (rw [World.cell?_drew]) | (rw [World.cell?_drewN]) | (dsimp only; omega))); done) | (first | (with_reducible assumption) | ((try simp (disch := first | omega | (simp only [szW] <;> omega) | fail) only [ceW]) <;> first | (with_reducible assumption) | rfl)))
  have c_t1 : wz.cell? ⟨w.heap.size, 1, none⟩ = some (.slice wa lw wc) := by rw [← hwz]; (first | (with_reducible assumption) | ((simp only [World.frozen?_setCell, World.frozen?_drew, World.frozen?_drewN]) <;> (with_reducible assumption)) | ((repeat (first | (with_reducible assumption) | (with_reducible refine World.cell?_setCell_same _ _ _ (by with_reducible assumption)) | (rw [World.cell?_setCell_other _ _ _ _ (by intro e; simp at e; done)]) | (with_reducible refine cell_setCell_block ?_ ?_) | (rw [World.cell?_drew]) | (rw [World.cell?_drewN]) | (dsimp only; omega))); done) | (first | (with_reducible assumption) | ((try simp (disch := first | omega | (simp only [szW] <;> omega) | fail) only [ceW]) <;> first | (with_reducible assumption) | rfl)))
  have c_t2 : wz.cell? ⟨w.heap.size, 2, none⟩ = some (.slice ka n kc) := by rw [← hwz]; (first | (with_reducible assumption) | ((simp only [World.frozen?_setCell, World.frozen?_drew, World.frozen?_drewN]) <;> (with_reducible assumption)) | ((repeat (first | (with_reducible assumption) | (with_reducible refine World.cell?_setCell_same _ _ _ (by with_reducible assumption)) | (rw [World.cell?_setCell_other _ _ _ _ (by intro e; simp at e; done)]) | (with_reducible refine cell_setCell_block ?_ ?_) | (rw [World.cell?_drew]) | (rw [World.cell?_drewN]) | (dsimp only; omega))); done) | (first | (with_reducible assumption) | ((try simp (disch := first | omega | (simp only [szW] <;> omega) | fail) only [ceW]) <;> first | (with_reducible assumption) | rfl)))
  have c_t3 : wz.cell? ⟨w.heap.size, 3, none⟩ = some (.slice va lv vc) := by rw [← hwz]; (first | (with_reducible assumption) | ((simp only [World.frozen?_setCell, World.frozen?_drew, World.frozen?_drewN]) <;> (with_reducible assumption)) | ((repeat (first | (with_reducible assumption) | (with_reducible refine World.cell?_setCell_same _ _ _ (by with_reducible assumption)) | (rw [World.cell?_setCell_other _ _ _ _ (by intro e; simp at e; done)]) | (with_reducible refine cell_setCell_block ?_ ?_) | (rw [World.cell?_drew]) | (rw [World.cell?_drewN]) | (dsimp only; omega))); done) | (first | (with_reducible assumption) | ((try simp (disch := first | omega | (simp only [szW] <;> omega) | fail) only [ceW]) <;> first | (with_reducible assumption) | rfl)))
  have c_t4 : wz.cell? ⟨w.heap.size, 4, none⟩ = some (.slice ca lc cc) := by rw [← hwz]; (first | (with_reducible assumption) | ((simp only [World.frozen?_setCell, World.frozen?_drew, World.frozen?_drewN]) <;> (with_reducible assumption)) | ((repeat (first | (with_reducible assumption) | (with_reducible refine World.cell?_setCell_same _ _ _ (by with_reducible assumption)) | (rw [World.cell?_setCell_other _ _ _ _ (by intro e; simp at e; done)]) | (with_reducible refine cell_setCell_block ?_ ?_) | (rw [World.cell?_drew]) | (rw [World.cell?_drewN]) | (dsimp only; omega))); done) | (first | (with_reducible assumption) | ((try simp (disch := first | omega | (simp only [szW] <;> omega) | fail) only [ceW]) <;> first | (with_reducible assumption) | rfl)))
  have c_t5 : wz.cell? ⟨w.heap.size, 5, none⟩ = some (.int .u64 laid) := by rw [← hwz]; (first | (with_reducible assumption) | ((simp only [World.frozen?_setCell, World.frozen?_drew, World.frozen?_drewN]) <;> (with_reducible assumption)) | ((repeat (first | (with_reducible assumption) | (with_reducible refine World.cell?_setCell_same _ _ _ (by with_reducible assumption)) | (rw [World.cell?_setCell_other _ _ _ _ (by intro e; simp at e; done)]) | (with_reducible refine cell_setCell_block ?_ ?_) | (rw [World.cell?_drew]) | (rw [World.cell?_drewN]) | (dsimp only; omega))); done) | (first | (with_reducible assumption) | ((try simp (disch := first | omega | (simp only [szW] <;> omega) | fail) only [ceW]) <;> first | (with_reducible assumption) | rfl)))
  have z_t : w.heap.size < wz.heap.size := by rw [← hwz]; (first | (with_reducible assumption) | omega | (simp only [szW] <;> omega) | (simp <;> omega))
  have HS : Hid (Below w.heap.size w wz) := by rw [← hwz]; exact Lib.hid ((Below.refl _ _).alloc (Nat.le_refl _) _)
  rw [hwz] at HN
  clear hwz
  go_wp2
  go_loopg [7, 8] (hi - lo) (fun gk sv iv wr => ∃ i : Nat, i + gk = hi ∧ lo ≤ i ∧ iv = .int .i64 i ∧ sv = .int .i64 (sumC cs lo i) ∧ wz = wr)
  case atStart => exact ⟨lo, by omega, Nat.le_refl _, rfl, by rw [sumC_nil], rfl⟩
  case round =>
    obtain ⟨i, hi2, hli, rfl, rfl, rfl⟩ := hrel
    by_cases hlt : i < hi
    · obtain ⟨b, off, x, rfl, hxx, hc, -⟩ := HN.out.get (i := i) (by rw [HL.out]; omega)
      have hsb := sumC_bd2 HC.out lo i
      have hx2 := HC.out i
      have hsu := sumC_succ cs (a := lo) (b := i) hli
      rw [hxx.out] at hsu hx2
      have hsn : S * (i - lo) ≤ 64 * 65536 := Nat.mul_le_mul HSS.out.2 (by omega)
      have hS64 := HSS.out.2
      generalize sumC cs lo i = s0 at *
      have hw1 : IntKind.i64.wrap (s0 + x) = s0 + x := IntWalk.i64_in _ (by omega)
      have HSU := Lib.hid hsu
      clear hxx hsu hx2 hsb
      go_wp2
      go_roundg (gk - 1)
      case measure => omega
      case rel => exact ⟨i + 1, by omega, by omega, by go_num, by rw [HSU.out], rfl⟩
    · have him : i = hi := by omega
      subst him
      go_wp2
      go_ret
      exact ⟨rfl, HS.out⟩
set_option maxRecDepth 100000 in
theorem Many09_core (w : World) (seg : Int) (wa ka va ca : Option Addr) (wc kc vc cc lw n lv lc : Nat) (laid : Int) (many : Int)
    (AM : Hid (∀ W, Below w.heap.size w W → Calls Try.prog 75 #[.agg #[.int .i64 seg, .slice wa lw wc, .slice ka n kc, .slice va lv vc, .slice ca lc cc, .int .u64 laid], .int .i64 0, .int .i64 n] W (AnsB W (.int .i64 many)))) :
    Calls Try.prog 50 #[.agg #[.int .i64 seg, .slice wa lw wc, .slice ka n kc, .slice va lv vc, .slice ca lc cc, .int .u64 laid]] w (AnsB w (.int .i64 many)) := by
  go_enter Try.func50, Try.ntmps50
  go_wp2_with fail
  refine (AM.out _ ((Below.refl _ _).alloc (Nat.le_refl _) _)).mono ?_
  rintro e w1 ⟨rfl, hb1⟩
  have hz_w1 := hb1.size
  try simp only [World.size_alloc, World.size_setCell] at hz_w1
  have all_c : w1.cell? ⟨w.heap.size, 0, none⟩ = some (.int .i64 seg) ∧ w1.cell? ⟨w.heap.size, 1, none⟩ = some (.slice wa lw wc) ∧ w1.cell? ⟨w.heap.size, 2, none⟩ = some (.slice ka n kc) ∧ w1.cell? ⟨w.heap.size, 3, none⟩ = some (.slice va lv vc) ∧ w1.cell? ⟨w.heap.size, 4, none⟩ = some (.slice ca lc cc) ∧ w1.cell? ⟨w.heap.size, 5, none⟩ = some (.int .u64 laid) := by refine ⟨?_, ?_, ?_, ?_, ?_, ?_⟩ <;> (refine (hb1.cell ?_).trans ?_ <;> first | (first | (with_reducible assumption) | omega | (simp only [szW] <;> omega) | (simp <;> omega)) | (first | (with_reducible assumption) | ((try simp (disch := first | omega | (simp only [szW] <;> omega) | fail) only [ceW]) <;> first | (with_reducible assumption) | rfl)))
  have all_z : w.heap.size < w1.heap.size := by omega
  obtain ⟨c_t0, c_t1, c_t2, c_t3, c_t4, c_t5⟩ := all_c
  try clear all_c
  have z_t := all_z
  try clear all_z
  have hB1 : Below w.heap.size w w1 := by (repeat (first | with_reducible (first | exact Below.refl _ _ | assumption | exact Hid.out (by assumption) | refine Below.alloc ?_ ?_ _ | refine Below.setCell ?_ ?_ _ | refine below_drewN ?_ _ | refine Below.drew ?_ | refine below_via (by assumption) ?_ ?_) | (first | (with_reducible assumption) | omega | (simp only [szW] <;> omega) | (simp <;> omega))))
  go_wp2
  go_ret
  exact ⟨rfl, hB1⟩
set_option maxRecDepth 100000 in
set_option maxHeartbeats 2000000 in
theorem dense_core (c : Cfg) (s : SlC) (seg : Int) (wa ka va ca : Option Addr) (wc kc vc cc lw n lv lc : Nat) (laid : Int) (a H : Nat) (k : CapC c n a H) (hlc : s.cs.length = 2 ^ H) (hnk : s.ks.length = n) (hcb : CntB s.cs (2 ^ a)) (z : Bool) (hz : denB c s H = z) (w : World)
    (AW : Hid (∀ h i, h ≤ H → i < 2 ^ (H - h) → ∀ W, Below w.heap.size w W → Calls Try.prog 75 #[.agg #[.int .i64 seg, .slice wa lw wc, .slice ka n kc, .slice va lv vc, .slice ca lc cc, .int .u64 laid], .int .i64 ((i * (2 ^ a * 2 ^ h) : Nat) : Int), .int .i64 (((i * (2 ^ a * 2 ^ h) : Nat) : Int) + ((2 ^ a * 2 ^ h : Nat) : Int))] W (AnsB W (.int .i64 (sumC s.cs (i * 2 ^ h) ((i + 1) * 2 ^ h)))))) :
    Calls Try.prog 51 #[.agg #[.int .u8 c.tag, .int .i64 c.most, .int .i64 c.seg, .int .i64 c.least, .int .i64 c.den, .int .i64 c.ll, .int .i64 c.rl, .int .i64 c.rh, .int .i64 c.lh], .agg #[.int .i64 seg, .slice wa lw wc, .slice ka n kc, .slice va lv vc, .slice ca lc cc, .int .u64 laid]] w (AnsB w (.bool z)) := by
  have hH := k.h14
  have hd := cfHead_num (cfMay_head k.may)
  have hzb := k.big
  have hza := k.all
  have HT := Lib.hid (fun W => Height05_ok c n (by omega) (by omega) (by omega) W)
  rw [k.hgt] at HT
  have WD := Lib.hid (fun h (hh : h ≤ H) W => Wide05_ok c h (by omega) (by omega) (by omega) W)
  have FU := Lib.hid (fun h (hh : h ≤ H) x h0 h1 W => NotMany05_ok c n a H h k hh x h0 h1 W)
  have SP := Lib.hid (fun h (hh : h ≤ H) x h0 h1 W => NotFew05_ok c n a H h k hh x h0 h1 W)
  have HZ := Lib.hid hz
  have HLC := Lib.hid hlc
  have HNK := Lib.hid hnk
  have hsum : ∀ h i, h ≤ H → 0 ≤ sumC s.cs (i * 2 ^ h) ((i + 1) * 2 ^ h) ∧ sumC s.cs (i * 2 ^ h) ((i + 1) * 2 ^ h) ≤ 65536 := by
    intro h i hh
    obtain ⟨e, -, e2, -⟩ := k.wd hh
    have := sumC_bd2 hcb (i * 2 ^ h) ((i + 1) * 2 ^ h)
    rw [win_wd] at this
    omega
  have HSM := Lib.hid hsum
  have HWD := Lib.hid (fun h (hh : h ≤ H) => k.wd hh)
  have HNL := Lib.hid (show n ≤ 65536 by omega)
  have HNW := Lib.hid (fun h (hh : h ≤ H) => show n = 2 ^ a * 2 ^ h * 2 ^ (H - h) by
    have := k.all
    rw [Nat.mul_assoc, ← Nat.pow_add 2 h (H - h), Nat.add_sub_cancel' hh]
    omega)
  clear hz hlc hnk hcb hsum k hd hzb hza
  go_enter Try.func51, Try.ntmps51
  go_upto_region 1 with (fail)
  generalize hwx : (w.alloc (.cells #[.int .u8 c.tag, .int .i64 c.most, .int .i64 c.seg, .int .i64 c.least, .int .i64 c.den, .int .i64 c.ll, .int .i64 c.rl, .int .i64 c.rh, .int .i64 c.lh] 23)).alloc (.cells #[.int .i64 seg, .slice wa lw wc, .slice ka n kc, .slice va lv vc, .slice ca lc cc, .int .u64 laid] 29) = wx
  have c_t0 : wx.cell? ⟨w.heap.size, 0, none⟩ = some (.int .u8 c.tag) := by rw [← hwx]; (first | (with_reducible assumption) | ((simp only [World.frozen?_setCell, World.frozen?_drew, World.frozen?_drewN]) <;> (with_reducible assumption)) | ((repeat (first | (with_reducible assumption) | (with_reducible refine World.cell?_setCell_same _ _ _ (by with_reducible assumption)) | (rw [World.cell?_setCell_other _ _ _ _ (by intro e; simp at e; done)]) | (with_reducible refine cell_setCell_block ?_ ?_) | (rw [World.cell?_drew]) | (rw [World.cell?_drewN]) | (dsimp only; omega))); done) | (first | (with_reducible assumption) | ((try simp (disch := first | omega | (simp only [szW] <;> omega) | fail) only [ceW]) <;> first | (with_reducible assumption) | rfl)))
  have c_t1 : wx.cell? ⟨w.heap.size, 1, none⟩ = some (.int .i64 c.most) := by rw [← hwx]; (first | (with_reducible assumption) | ((simp only [World.frozen?_setCell, World.frozen?_drew, World.frozen?_drewN]) <;> (with_reducible assumption)) | ((repeat (first | (with_reducible assumption) | (with_reducible refine World.cell?_setCell_same _ _ _ (by with_reducible assumption)) | (rw [World.cell?_setCell_other _ _ _ _ (by intro e; simp at e; done)]) | (with_reducible refine cell_setCell_block ?_ ?_) | (rw [World.cell?_drew]) | (rw [World.cell?_drewN]) | (dsimp only; omega))); done) | (first | (with_reducible assumption) | ((try simp (disch := first | omega | (simp only [szW] <;> omega) | fail) only [ceW]) <;> first | (with_reducible assumption) | rfl)))
  have c_t2 : wx.cell? ⟨w.heap.size, 2, none⟩ = some (.int .i64 c.seg) := by rw [← hwx]; (first | (with_reducible assumption) | ((simp only [World.frozen?_setCell, World.frozen?_drew, World.frozen?_drewN]) <;> (with_reducible assumption)) | ((repeat (first | (with_reducible assumption) | (with_reducible refine World.cell?_setCell_same _ _ _ (by with_reducible assumption)) | (rw [World.cell?_setCell_other _ _ _ _ (by intro e; simp at e; done)]) | (with_reducible refine cell_setCell_block ?_ ?_) | (rw [World.cell?_drew]) | (rw [World.cell?_drewN]) | (dsimp only; omega))); done) | (first | (with_reducible assumption) | ((try simp (disch := first | omega | (simp only [szW] <;> omega) | fail) only [ceW]) <;> first | (with_reducible assumption) | rfl)))
  have c_t3 : wx.cell? ⟨w.heap.size, 3, none⟩ = some (.int .i64 c.least) := by rw [← hwx]; (first | (with_reducible assumption) | ((simp only [World.frozen?_setCell, World.frozen?_drew, World.frozen?_drewN]) <;> (with_reducible assumption)) | ((repeat (first | (with_reducible assumption) | (with_reducible refine World.cell?_setCell_same _ _ _ (by with_reducible assumption)) | (rw [World.cell?_setCell_other _ _ _ _ (by intro e; simp at e; done)]) | (with_reducible refine cell_setCell_block ?_ ?_) | (rw [World.cell?_drew]) | (rw [World.cell?_drewN]) | (dsimp only; omega))); done) | (first | (with_reducible assumption) | ((try simp (disch := first | omega | (simp only [szW] <;> omega) | fail) only [ceW]) <;> first | (with_reducible assumption) | rfl)))
  have c_t4 : wx.cell? ⟨w.heap.size, 4, none⟩ = some (.int .i64 c.den) := by rw [← hwx]; (first | (with_reducible assumption) | ((simp only [World.frozen?_setCell, World.frozen?_drew, World.frozen?_drewN]) <;> (with_reducible assumption)) | ((repeat (first | (with_reducible assumption) | (with_reducible refine World.cell?_setCell_same _ _ _ (by with_reducible assumption)) | (rw [World.cell?_setCell_other _ _ _ _ (by intro e; simp at e; done)]) | (with_reducible refine cell_setCell_block ?_ ?_) | (rw [World.cell?_drew]) | (rw [World.cell?_drewN]) | (dsimp only; omega))); done) | (first | (with_reducible assumption) | ((try simp (disch := first | omega | (simp only [szW] <;> omega) | fail) only [ceW]) <;> first | (with_reducible assumption) | rfl)))
  have c_t5 : wx.cell? ⟨w.heap.size, 5, none⟩ = some (.int .i64 c.ll) := by rw [← hwx]; (first | (with_reducible assumption) | ((simp only [World.frozen?_setCell, World.frozen?_drew, World.frozen?_drewN]) <;> (with_reducible assumption)) | ((repeat (first | (with_reducible assumption) | (with_reducible refine World.cell?_setCell_same _ _ _ (by with_reducible assumption)) | (rw [World.cell?_setCell_other _ _ _ _ (by intro e; simp at e; done)]) | (with_reducible refine cell_setCell_block ?_ ?_) | (rw [World.cell?_drew]) | (rw [World.cell?_drewN]) | (dsimp only; omega))); done) | (first | (with_reducible assumption) | ((try simp (disch := first | omega | (simp only [szW] <;> omega) | fail) only [ceW]) <;> first | (with_reducible assumption) | rfl)))
  have c_t6 : wx.cell? ⟨w.heap.size, 6, none⟩ = some (.int .i64 c.rl) := by rw [← hwx]; (first | (with_reducible assumption) | ((simp only [World.frozen?_setCell, World.frozen?_drew, World.frozen?_drewN]) <;> (with_reducible assumption)) | ((repeat (first | (with_reducible assumption) | (with_reducible refine World.cell?_setCell_same _ _ _ (by with_reducible assumption)) | (rw [World.cell?_setCell_other _ _ _ _ (by intro e; simp at e; done)]) | (with_reducible refine cell_setCell_block ?_ ?_) | (rw [World.cell?_drew]) | (rw [World.cell?_drewN]) | (dsimp only; omega))); done) | (first | (with_reducible assumption) | ((try simp (disch := first | omega | (simp only [szW] <;> omega) | fail) only [ceW]) <;> first | (with_reducible assumption) | rfl)))
  have c_t7 : wx.cell? ⟨w.heap.size, 7, none⟩ = some (.int .i64 c.rh) := by rw [← hwx]; (first | (with_reducible assumption) | ((simp only [World.frozen?_setCell, World.frozen?_drew, World.frozen?_drewN]) <;> (with_reducible assumption)) | ((repeat (first | (with_reducible assumption) | (with_reducible refine World.cell?_setCell_same _ _ _ (by with_reducible assumption)) | (rw [World.cell?_setCell_other _ _ _ _ (by intro e; simp at e; done)]) | (with_reducible refine cell_setCell_block ?_ ?_) | (rw [World.cell?_drew]) | (rw [World.cell?_drewN]) | (dsimp only; omega))); done) | (first | (with_reducible assumption) | ((try simp (disch := first | omega | (simp only [szW] <;> omega) | fail) only [ceW]) <;> first | (with_reducible assumption) | rfl)))
  have c_t8 : wx.cell? ⟨w.heap.size, 8, none⟩ = some (.int .i64 c.lh) := by rw [← hwx]; (first | (with_reducible assumption) | ((simp only [World.frozen?_setCell, World.frozen?_drew, World.frozen?_drewN]) <;> (with_reducible assumption)) | ((repeat (first | (with_reducible assumption) | (with_reducible refine World.cell?_setCell_same _ _ _ (by with_reducible assumption)) | (rw [World.cell?_setCell_other _ _ _ _ (by intro e; simp at e; done)]) | (with_reducible refine cell_setCell_block ?_ ?_) | (rw [World.cell?_drew]) | (rw [World.cell?_drewN]) | (dsimp only; omega))); done) | (first | (with_reducible assumption) | ((try simp (disch := first | omega | (simp only [szW] <;> omega) | fail) only [ceW]) <;> first | (with_reducible assumption) | rfl)))
  have z_t : w.heap.size < wx.heap.size := by rw [← hwx]; (first | (with_reducible assumption) | omega | (simp only [szW] <;> omega) | (simp <;> omega))
  have c_s0 : wx.cell? ⟨w.heap.size + 1, 0, none⟩ = some (.int .i64 seg) := by rw [← hwx]; (first | (with_reducible assumption) | ((simp only [World.frozen?_setCell, World.frozen?_drew, World.frozen?_drewN]) <;> (with_reducible assumption)) | ((repeat (first | (with_reducible assumption) | (with_reducible refine World.cell?_setCell_same _ _ _ (by with_reducible assumption)) | (rw [World.cell?_setCell_other _ _ _ _ (by intro e; simp at e; done)]) | (with_reducible refine cell_setCell_block ?_ ?_) | (rw [World.cell?_drew]) | (rw [World.cell?_drewN]) | (dsimp only; omega))); done) | (first | (with_reducible assumption) | ((try simp (disch := first | omega | (simp only [szW] <;> omega) | fail) only [ceW]) <;> first | (with_reducible assumption) | rfl)))
  have c_s1 : wx.cell? ⟨w.heap.size + 1, 1, none⟩ = some (.slice wa lw wc) := by rw [← hwx]; (first | (with_reducible assumption) | ((simp only [World.frozen?_setCell, World.frozen?_drew, World.frozen?_drewN]) <;> (with_reducible assumption)) | ((repeat (first | (with_reducible assumption) | (with_reducible refine World.cell?_setCell_same _ _ _ (by with_reducible assumption)) | (rw [World.cell?_setCell_other _ _ _ _ (by intro e; simp at e; done)]) | (with_reducible refine cell_setCell_block ?_ ?_) | (rw [World.cell?_drew]) | (rw [World.cell?_drewN]) | (dsimp only; omega))); done) | (first | (with_reducible assumption) | ((try simp (disch := first | omega | (simp only [szW] <;> omega) | fail) only [ceW]) <;> first | (with_reducible assumption) | rfl)))
  have c_s2 : wx.cell? ⟨w.heap.size + 1, 2, none⟩ = some (.slice ka n kc) := by rw [← hwx]; (first | (with_reducible assumption) | ((simp only [World.frozen?_setCell, World.frozen?_drew, World.frozen?_drewN]) <;> (with_reducible assumption)) | ((repeat (first | (with_reducible assumption) | (with_reducible refine World.cell?_setCell_same _ _ _ (by with_reducible assumption)) | (rw [World.cell?_setCell_other _ _ _ _ (by intro e; simp at e; done)]) | (with_reducible refine cell_setCell_block ?_ ?_) | (rw [World.cell?_drew]) | (rw [World.cell?_drewN]) | (dsimp only; omega))); done) | (first | (with_reducible assumption) | ((try simp (disch := first | omega | (simp only [szW] <;> omega) | fail) only [ceW]) <;> first | (with_reducible assumption) | rfl)))
  have c_s3 : wx.cell? ⟨w.heap.size + 1, 3, none⟩ = some (.slice va lv vc) := by rw [← hwx]; (first | (with_reducible assumption) | ((simp only [World.frozen?_setCell, World.frozen?_drew, World.frozen?_drewN]) <;> (with_reducible assumption)) | ((repeat (first | (with_reducible assumption) | (with_reducible refine World.cell?_setCell_same _ _ _ (by with_reducible assumption)) | (rw [World.cell?_setCell_other _ _ _ _ (by intro e; simp at e; done)]) | (with_reducible refine cell_setCell_block ?_ ?_) | (rw [World.cell?_drew]) | (rw [World.cell?_drewN]) | (dsimp only; omega))); done) | (first | (with_reducible assumption) | ((try simp (disch := first | omega | (simp only [szW] <;> omega) | fail) only [ceW]) <;> first | (with_reducible assumption) | rfl)))
  have c_s4 : wx.cell? ⟨w.heap.size + 1, 4, none⟩ = some (.slice ca lc cc) := by rw [← hwx]; (first | (with_reducible assumption) | ((simp only [World.frozen?_setCell, World.frozen?_drew, World.frozen?_drewN]) <;> (with_reducible assumption)) | ((repeat (first | (with_reducible assumption) | (with_reducible refine World.cell?_setCell_same _ _ _ (by with_reducible assumption)) | (rw [World.cell?_setCell_other _ _ _ _ (by intro e; simp at e; done)]) | (with_reducible refine cell_setCell_block ?_ ?_) | (rw [World.cell?_drew]) | (rw [World.cell?_drewN]) | (dsimp only; omega))); done) | (first | (with_reducible assumption) | ((try simp (disch := first | omega | (simp only [szW] <;> omega) | fail) only [ceW]) <;> first | (with_reducible assumption) | rfl)))
  have c_s5 : wx.cell? ⟨w.heap.size + 1, 5, none⟩ = some (.int .u64 laid) := by rw [← hwx]; (first | (with_reducible assumption) | ((simp only [World.frozen?_setCell, World.frozen?_drew, World.frozen?_drewN]) <;> (with_reducible assumption)) | ((repeat (first | (with_reducible assumption) | (with_reducible refine World.cell?_setCell_same _ _ _ (by with_reducible assumption)) | (rw [World.cell?_setCell_other _ _ _ _ (by intro e; simp at e; done)]) | (with_reducible refine cell_setCell_block ?_ ?_) | (rw [World.cell?_drew]) | (rw [World.cell?_drewN]) | (dsimp only; omega))); done) | (first | (with_reducible assumption) | ((try simp (disch := first | omega | (simp only [szW] <;> omega) | fail) only [ceW]) <;> first | (with_reducible assumption) | rfl)))
  have z_s : w.heap.size + 1 < wx.heap.size := by rw [← hwx]; (first | (with_reducible assumption) | omega | (simp only [szW] <;> omega) | (simp <;> omega))
  have HB3 : Hid (Below w.heap.size w wx) := by rw [← hwx]; exact Lib.hid (by (repeat (first | with_reducible (first | exact Below.refl _ _ | assumption | exact Hid.out (by assumption) | refine Below.alloc ?_ ?_ _ | refine Below.setCell ?_ ?_ _ | refine below_drewN ?_ _ | refine Below.drew ?_ | refine below_via (by assumption) ?_ ?_) | (first | (with_reducible assumption) | omega | (simp only [szW] <;> omega) | (simp <;> omega)))))
  clear hwx
  go_wp2
  go_loopg [6] (H + 1) (fun gk iv wr => ∃ h : Nat, h + gk = H + 1 ∧ iv = .int .i64 h ∧ Hid (∀ h', h' < h → rowB c s H h' = true) ∧ Hid (Below wx.heap.size wx wr))
  case atStart => exact ⟨0, by omega, rfl, Lib.hid fun h' q => by omega, Lib.hid (Below.refl _ _)⟩
  case round =>
    obtain ⟨h, hk, rfl, HD, HB⟩ := hrel
    have hbr := HB.out
    have hz_wr := hbr.size
    try simp only [World.size_alloc, World.size_setCell] at hz_wr
    have all_c : wr.cell? ⟨w.heap.size, 0, none⟩ = some (.int .u8 c.tag) ∧ wr.cell? ⟨w.heap.size, 1, none⟩ = some (.int .i64 c.most) ∧ wr.cell? ⟨w.heap.size, 2, none⟩ = some (.int .i64 c.seg) ∧ wr.cell? ⟨w.heap.size, 3, none⟩ = some (.int .i64 c.least) ∧ wr.cell? ⟨w.heap.size, 4, none⟩ = some (.int .i64 c.den) ∧ wr.cell? ⟨w.heap.size, 5, none⟩ = some (.int .i64 c.ll) ∧ wr.cell? ⟨w.heap.size, 6, none⟩ = some (.int .i64 c.rl) ∧ wr.cell? ⟨w.heap.size, 7, none⟩ = some (.int .i64 c.rh) ∧ wr.cell? ⟨w.heap.size, 8, none⟩ = some (.int .i64 c.lh) ∧ wr.cell? ⟨w.heap.size + 1, 0, none⟩ = some (.int .i64 seg) ∧ wr.cell? ⟨w.heap.size + 1, 1, none⟩ = some (.slice wa lw wc) ∧ wr.cell? ⟨w.heap.size + 1, 2, none⟩ = some (.slice ka n kc) ∧ wr.cell? ⟨w.heap.size + 1, 3, none⟩ = some (.slice va lv vc) ∧ wr.cell? ⟨w.heap.size + 1, 4, none⟩ = some (.slice ca lc cc) ∧ wr.cell? ⟨w.heap.size + 1, 5, none⟩ = some (.int .u64 laid) := by refine ⟨?_, ?_, ?_, ?_, ?_, ?_, ?_, ?_, ?_, ?_, ?_, ?_, ?_, ?_, ?_⟩ <;> (refine (hbr.cell ?_).trans ?_ <;> first | (first | (with_reducible assumption) | omega | (simp only [szW] <;> omega) | (simp <;> omega)) | (first | (with_reducible assumption) | ((try simp (disch := first | omega | (simp only [szW] <;> omega) | fail) only [ceW]) <;> first | (with_reducible assumption) | rfl)))
    have all_z : w.heap.size < wr.heap.size ∧ w.heap.size + 1 < wr.heap.size := by refine ⟨?_, ?_⟩ <;> (omega)
    clear c_t0 c_t1 c_t2 c_t3 c_t4 c_t5 c_t6 c_t7 c_t8 c_s0 c_s1 c_s2 c_s3 c_s4 c_s5 z_t z_s
    obtain ⟨c_t0, c_t1, c_t2, c_t3, c_t4, c_t5, c_t6, c_t7, c_t8, c_s0, c_s1, c_s2, c_s3, c_s4, c_s5⟩ := all_c
    try clear all_c
    obtain ⟨z_t, z_s⟩ := all_z
    try clear all_z
    have HB4 := Lib.hid (below_via hbr HB3.out HB3.out.size)
    have hz4 := HB4.out.size
    clear hbr
    go_wp2_with fail
    refine (HT.out _).mono ?_
    rintro e w4 ⟨rfl, hb4⟩
    have hz_w4 := hb4.size
    try simp only [World.size_alloc, World.size_setCell] at hz_w4
    have all_c : w4.cell? ⟨w.heap.size, 0, none⟩ = some (.int .u8 c.tag) ∧ w4.cell? ⟨w.heap.size, 1, none⟩ = some (.int .i64 c.most) ∧ w4.cell? ⟨w.heap.size, 2, none⟩ = some (.int .i64 c.seg) ∧ w4.cell? ⟨w.heap.size, 3, none⟩ = some (.int .i64 c.least) ∧ w4.cell? ⟨w.heap.size, 4, none⟩ = some (.int .i64 c.den) ∧ w4.cell? ⟨w.heap.size, 5, none⟩ = some (.int .i64 c.ll) ∧ w4.cell? ⟨w.heap.size, 6, none⟩ = some (.int .i64 c.rl) ∧ w4.cell? ⟨w.heap.size, 7, none⟩ = some (.int .i64 c.rh) ∧ w4.cell? ⟨w.heap.size, 8, none⟩ = some (.int .i64 c.lh) ∧ w4.cell? ⟨w.heap.size + 1, 0, none⟩ = some (.int .i64 seg) ∧ w4.cell? ⟨w.heap.size + 1, 1, none⟩ = some (.slice wa lw wc) ∧ w4.cell? ⟨w.heap.size + 1, 2, none⟩ = some (.slice ka n kc) ∧ w4.cell? ⟨w.heap.size + 1, 3, none⟩ = some (.slice va lv vc) ∧ w4.cell? ⟨w.heap.size + 1, 4, none⟩ = some (.slice ca lc cc) ∧ w4.cell? ⟨w.heap.size + 1, 5, none⟩ = some (.int .u64 laid) := by refine ⟨?_, ?_, ?_, ?_, ?_, ?_, ?_, ?_, ?_, ?_, ?_, ?_, ?_, ?_, ?_⟩ <;> (refine (hb4.cell ?_).trans ?_ <;> first | (first | (with_reducible assumption) | omega | (simp only [szW] <;> omega) | (simp <;> omega)) | (first | (with_reducible assumption) | ((try simp (disch := first | omega | (simp only [szW] <;> omega) | fail) only [ceW]) <;> first | (with_reducible assumption) | rfl)))
    have all_z : w.heap.size < w4.heap.size ∧ w.heap.size + 1 < w4.heap.size := by refine ⟨?_, ?_⟩ <;> (omega)
    clear c_t0 c_t1 c_t2 c_t3 c_t4 c_t5 c_t6 c_t7 c_t8 c_s0 c_s1 c_s2 c_s3 c_s4 c_s5 z_t z_s
    obtain ⟨c_t0, c_t1, c_t2, c_t3, c_t4, c_t5, c_t6, c_t7, c_t8, c_s0, c_s1, c_s2, c_s3, c_s4, c_s5⟩ := all_c
    try clear all_c
    obtain ⟨z_t, z_s⟩ := all_z
    try clear all_z
    have HC4 := Lib.hid (below_via hb4 HB4.out hz4)
    have HW4 := Lib.hid (below_via hb4 HB.out HB.out.size)
    clear hb4
    by_cases hlt : h < H + 1
    · generalize gk = go at *
      have HK := Lib.hid hk
      clear hk
      have hgoh : decide ((h : Int) ≤ H) = true := by simp; omega
      go_wp2_with fail
      refine (WD.out h (by omega) _).mono ?_
      rintro e w5 ⟨rfl, hb5⟩
      have hz_w5 := hb5.size
      try simp only [World.size_alloc, World.size_setCell] at hz_w5
      have all_c : w5.cell? ⟨w.heap.size, 0, none⟩ = some (.int .u8 c.tag) ∧ w5.cell? ⟨w.heap.size, 1, none⟩ = some (.int .i64 c.most) ∧ w5.cell? ⟨w.heap.size, 2, none⟩ = some (.int .i64 c.seg) ∧ w5.cell? ⟨w.heap.size, 3, none⟩ = some (.int .i64 c.least) ∧ w5.cell? ⟨w.heap.size, 4, none⟩ = some (.int .i64 c.den) ∧ w5.cell? ⟨w.heap.size, 5, none⟩ = some (.int .i64 c.ll) ∧ w5.cell? ⟨w.heap.size, 6, none⟩ = some (.int .i64 c.rl) ∧ w5.cell? ⟨w.heap.size, 7, none⟩ = some (.int .i64 c.rh) ∧ w5.cell? ⟨w.heap.size, 8, none⟩ = some (.int .i64 c.lh) ∧ w5.cell? ⟨w.heap.size + 1, 0, none⟩ = some (.int .i64 seg) ∧ w5.cell? ⟨w.heap.size + 1, 1, none⟩ = some (.slice wa lw wc) ∧ w5.cell? ⟨w.heap.size + 1, 2, none⟩ = some (.slice ka n kc) ∧ w5.cell? ⟨w.heap.size + 1, 3, none⟩ = some (.slice va lv vc) ∧ w5.cell? ⟨w.heap.size + 1, 4, none⟩ = some (.slice ca lc cc) ∧ w5.cell? ⟨w.heap.size + 1, 5, none⟩ = some (.int .u64 laid) := by refine ⟨?_, ?_, ?_, ?_, ?_, ?_, ?_, ?_, ?_, ?_, ?_, ?_, ?_, ?_, ?_⟩ <;> (refine (hb5.cell ?_).trans ?_ <;> first | (first | (with_reducible assumption) | omega | (simp only [szW] <;> omega) | (simp <;> omega)) | (first | (with_reducible assumption) | ((try simp (disch := first | omega | (simp only [szW] <;> omega) | fail) only [ceW]) <;> first | (with_reducible assumption) | rfl)))
      have all_z : w.heap.size < w5.heap.size ∧ w.heap.size + 1 < w5.heap.size := by refine ⟨?_, ?_⟩ <;> (omega)
      clear c_t0 c_t1 c_t2 c_t3 c_t4 c_t5 c_t6 c_t7 c_t8 c_s0 c_s1 c_s2 c_s3 c_s4 c_s5 z_t z_s
      obtain ⟨c_t0, c_t1, c_t2, c_t3, c_t4, c_t5, c_t6, c_t7, c_t8, c_s0, c_s1, c_s2, c_s3, c_s4, c_s5⟩ := all_c
      try clear all_c
      obtain ⟨z_t, z_s⟩ := all_z
      try clear all_z
      have HB5 := Lib.hid (below_via hb5 HC4.out HC4.out.size)
      have HW5 := Lib.hid (below_via hb5 HW4.out HW4.out.size)
      have hz5 := hb5.size
      obtain ⟨we, we4, we6, -⟩ := HWD.out h (by omega)
      have hnw := HNW.out h (by omega)
      rw [we]
      have AW2 := Lib.hid (fun i hi W hb => AW.out h i (by omega) hi W hb)
      have SM2 := Lib.hid (fun i => HSM.out h i (by omega))
      have hbad : Hid (∀ i, i < 2 ^ (H - h) → winB c s H h i = false → z = false) := Lib.hid fun i hi hb => by
        rw [← HZ.out, winB_bad hlt (by rw [HLC.out, Nat.pow_div (by omega) (by omega)]; exact hi) hb]
      have hgood : Hid ((∀ i, i < 2 ^ (H - h) → winB c s H h i = true) → rowB c s H h = true) := Lib.hid fun hg => List.all_eq_true.2 fun i hi => hg i (by have := List.mem_range.1 hi; rwa [HLC.out, Nat.pow_div (by omega) (by omega)] at this)
      have hm0 := Nat.two_pow_pos (H - h)
      generalize 2 ^ (H - h) = m at *
      have hWb : 4 ≤ 2 ^ a * 2 ^ h ∧ 2 ^ a * 2 ^ h ≤ 65536 := by omega
      generalize hWW : 2 ^ a * 2 ^ h = Wd at *
      have hn6 : n ≤ 65536 * m := by rw [hnw]; exact Nat.mul_le_mul_right _ hWb.2
      have HNN := Lib.hid hnw
      clear hb5 we we4 we6 hnw
      go_wp2
      go_loopg [8] m (fun gk2 iv wr2 => ∃ i : Nat, i + gk2 = m ∧ iv = .int .i64 ((i * Wd : Nat) : Int) ∧ Hid (∀ j, j < i → winB c s H h j = true) ∧ Hid (Below w5.heap.size w5 wr2))
      case atStart => exact ⟨0, by omega, by simp, Lib.hid fun j q => by omega, Lib.hid (Below.refl _ _)⟩
      case round =>
        obtain ⟨i, hk2, rfl, HD2, HBB⟩ := hrel
        have hbr2 := HBB.out
        have hz_wr := hbr2.size
        try simp only [World.size_alloc, World.size_setCell] at hz_wr
        have all_c : wr.cell? ⟨w.heap.size, 0, none⟩ = some (.int .u8 c.tag) ∧ wr.cell? ⟨w.heap.size, 1, none⟩ = some (.int .i64 c.most) ∧ wr.cell? ⟨w.heap.size, 2, none⟩ = some (.int .i64 c.seg) ∧ wr.cell? ⟨w.heap.size, 3, none⟩ = some (.int .i64 c.least) ∧ wr.cell? ⟨w.heap.size, 4, none⟩ = some (.int .i64 c.den) ∧ wr.cell? ⟨w.heap.size, 5, none⟩ = some (.int .i64 c.ll) ∧ wr.cell? ⟨w.heap.size, 6, none⟩ = some (.int .i64 c.rl) ∧ wr.cell? ⟨w.heap.size, 7, none⟩ = some (.int .i64 c.rh) ∧ wr.cell? ⟨w.heap.size, 8, none⟩ = some (.int .i64 c.lh) ∧ wr.cell? ⟨w.heap.size + 1, 0, none⟩ = some (.int .i64 seg) ∧ wr.cell? ⟨w.heap.size + 1, 1, none⟩ = some (.slice wa lw wc) ∧ wr.cell? ⟨w.heap.size + 1, 2, none⟩ = some (.slice ka n kc) ∧ wr.cell? ⟨w.heap.size + 1, 3, none⟩ = some (.slice va lv vc) ∧ wr.cell? ⟨w.heap.size + 1, 4, none⟩ = some (.slice ca lc cc) ∧ wr.cell? ⟨w.heap.size + 1, 5, none⟩ = some (.int .u64 laid) := by refine ⟨?_, ?_, ?_, ?_, ?_, ?_, ?_, ?_, ?_, ?_, ?_, ?_, ?_, ?_, ?_⟩ <;> (refine (hbr2.cell ?_).trans ?_ <;> first | (first | (with_reducible assumption) | omega | (simp only [szW] <;> omega) | (simp <;> omega)) | (first | (with_reducible assumption) | ((try simp (disch := first | omega | (simp only [szW] <;> omega) | fail) only [ceW]) <;> first | (with_reducible assumption) | rfl)))
        have all_z : w.heap.size < wr.heap.size ∧ w.heap.size + 1 < wr.heap.size := by refine ⟨?_, ?_⟩ <;> (omega)
        clear c_t0 c_t1 c_t2 c_t3 c_t4 c_t5 c_t6 c_t7 c_t8 c_s0 c_s1 c_s2 c_s3 c_s4 c_s5 z_t z_s
        obtain ⟨c_t0, c_t1, c_t2, c_t3, c_t4, c_t5, c_t6, c_t7, c_t8, c_s0, c_s1, c_s2, c_s3, c_s4, c_s5⟩ := all_c
        try clear all_c
        obtain ⟨z_t, z_s⟩ := all_z
        try clear all_z
        have HB6 := Lib.hid (below_via hbr2 HB5.out HB5.out.size)
        have hz6 := HB6.out.size
        clear hbr2
        by_cases hlt2 : i < m
        · have AW3 := Lib.hid (fun W hb => AW2.out i hlt2 W hb)
          have sb := SM2.out i
          obtain ⟨sb1, sb2⟩ := sb
          have HWB : Hid (winB c s H h i = (fulB c H h (sumC s.cs (i * 2 ^ h) ((i + 1) * 2 ^ h)) && sprB c n H h (sumC s.cs (i * 2 ^ h) ((i + 1) * 2 ^ h)))) := Lib.hid (by rw [← HNK.out]; rfl)
          generalize sumC s.cs (i * 2 ^ h) ((i + 1) * 2 ^ h) = sm at *
          have hiw : (i + 1) * Wd ≤ Wd * m := by rw [Nat.mul_comm Wd]; exact Nat.mul_le_mul_right _ hlt2
          rw [Nat.succ_mul] at hiw
          have hgo : decide (((i * Wd : Nat) : Int) < (n : Int)) = true := by have := HNN.out; simp; omega
          have hnl := HNL.out
          have hnx : IntKind.i64.wrap (((i * Wd : Nat) : Int) + (Wd : Int)) = ((i * Wd : Nat) : Int) + (Wd : Int) := IntWalk.i64_in _ (by have := HNN.out; omega)
          have hnx2 : ((i * Wd : Nat) : Int) + (Wd : Int) = (((i + 1) * Wd : Nat) : Int) := by rw [Nat.succ_mul]; push_cast; rfl
          have HNX := Lib.hid hnx2
          clear hiw hnx2
          generalize ((i * Wd : Nat) : Int) = x0 at *
          have FU2 := Lib.hid (fun W => FU.out h (by omega) sm sb1 (by omega) W)
          have SP2 := Lib.hid (fun W => SP.out h (by omega) sm sb1 (by omega) W)
          have HK2 := Lib.hid hk2
          clear hk2
          go_wp2_with fail
          refine (AW3.out _ HB6.out).mono ?_
          rintro e w7 ⟨rfl, hb7⟩
          have hz_w7 := hb7.size
          try simp only [World.size_alloc, World.size_setCell] at hz_w7
          have all_c : w7.cell? ⟨w.heap.size, 0, none⟩ = some (.int .u8 c.tag) ∧ w7.cell? ⟨w.heap.size, 1, none⟩ = some (.int .i64 c.most) ∧ w7.cell? ⟨w.heap.size, 2, none⟩ = some (.int .i64 c.seg) ∧ w7.cell? ⟨w.heap.size, 3, none⟩ = some (.int .i64 c.least) ∧ w7.cell? ⟨w.heap.size, 4, none⟩ = some (.int .i64 c.den) ∧ w7.cell? ⟨w.heap.size, 5, none⟩ = some (.int .i64 c.ll) ∧ w7.cell? ⟨w.heap.size, 6, none⟩ = some (.int .i64 c.rl) ∧ w7.cell? ⟨w.heap.size, 7, none⟩ = some (.int .i64 c.rh) ∧ w7.cell? ⟨w.heap.size, 8, none⟩ = some (.int .i64 c.lh) ∧ w7.cell? ⟨w.heap.size + 1, 0, none⟩ = some (.int .i64 seg) ∧ w7.cell? ⟨w.heap.size + 1, 1, none⟩ = some (.slice wa lw wc) ∧ w7.cell? ⟨w.heap.size + 1, 2, none⟩ = some (.slice ka n kc) ∧ w7.cell? ⟨w.heap.size + 1, 3, none⟩ = some (.slice va lv vc) ∧ w7.cell? ⟨w.heap.size + 1, 4, none⟩ = some (.slice ca lc cc) ∧ w7.cell? ⟨w.heap.size + 1, 5, none⟩ = some (.int .u64 laid) := by refine ⟨?_, ?_, ?_, ?_, ?_, ?_, ?_, ?_, ?_, ?_, ?_, ?_, ?_, ?_, ?_⟩ <;> (refine (hb7.cell ?_).trans ?_ <;> first | (first | (with_reducible assumption) | omega | (simp only [szW] <;> omega) | (simp <;> omega)) | (first | (with_reducible assumption) | ((try simp (disch := first | omega | (simp only [szW] <;> omega) | fail) only [ceW]) <;> first | (with_reducible assumption) | rfl)))
          have all_z : w.heap.size < w7.heap.size ∧ w.heap.size + 1 < w7.heap.size := by refine ⟨?_, ?_⟩ <;> (omega)
          clear c_t0 c_t1 c_t2 c_t3 c_t4 c_t5 c_t6 c_t7 c_t8 c_s0 c_s1 c_s2 c_s3 c_s4 c_s5 z_t z_s
          obtain ⟨c_t0, c_t1, c_t2, c_t3, c_t4, c_t5, c_t6, c_t7, c_t8, c_s0, c_s1, c_s2, c_s3, c_s4, c_s5⟩ := all_c
          try clear all_c
          obtain ⟨z_t, z_s⟩ := all_z
          try clear all_z
          have HB7 := Lib.hid (below_via hb7 HB6.out hz6)
          have HC7 := Lib.hid (below_via hb7 HBB.out HBB.out.size)
          clear hb7
          go_wp2_with fail
          refine (FU2.out _).mono ?_
          rintro e w8 ⟨rfl, hb8⟩
          have hz_w8 := hb8.size
          try simp only [World.size_alloc, World.size_setCell] at hz_w8
          have all_c : w8.cell? ⟨w.heap.size, 0, none⟩ = some (.int .u8 c.tag) ∧ w8.cell? ⟨w.heap.size, 1, none⟩ = some (.int .i64 c.most) ∧ w8.cell? ⟨w.heap.size, 2, none⟩ = some (.int .i64 c.seg) ∧ w8.cell? ⟨w.heap.size, 3, none⟩ = some (.int .i64 c.least) ∧ w8.cell? ⟨w.heap.size, 4, none⟩ = some (.int .i64 c.den) ∧ w8.cell? ⟨w.heap.size, 5, none⟩ = some (.int .i64 c.ll) ∧ w8.cell? ⟨w.heap.size, 6, none⟩ = some (.int .i64 c.rl) ∧ w8.cell? ⟨w.heap.size, 7, none⟩ = some (.int .i64 c.rh) ∧ w8.cell? ⟨w.heap.size, 8, none⟩ = some (.int .i64 c.lh) ∧ w8.cell? ⟨w.heap.size + 1, 0, none⟩ = some (.int .i64 seg) ∧ w8.cell? ⟨w.heap.size + 1, 1, none⟩ = some (.slice wa lw wc) ∧ w8.cell? ⟨w.heap.size + 1, 2, none⟩ = some (.slice ka n kc) ∧ w8.cell? ⟨w.heap.size + 1, 3, none⟩ = some (.slice va lv vc) ∧ w8.cell? ⟨w.heap.size + 1, 4, none⟩ = some (.slice ca lc cc) ∧ w8.cell? ⟨w.heap.size + 1, 5, none⟩ = some (.int .u64 laid) := by refine ⟨?_, ?_, ?_, ?_, ?_, ?_, ?_, ?_, ?_, ?_, ?_, ?_, ?_, ?_, ?_⟩ <;> (refine (hb8.cell ?_).trans ?_ <;> first | (first | (with_reducible assumption) | omega | (simp only [szW] <;> omega) | (simp <;> omega)) | (first | (with_reducible assumption) | ((try simp (disch := first | omega | (simp only [szW] <;> omega) | fail) only [ceW]) <;> first | (with_reducible assumption) | rfl)))
          have all_z : w.heap.size < w8.heap.size ∧ w.heap.size + 1 < w8.heap.size := by refine ⟨?_, ?_⟩ <;> (omega)
          clear c_t0 c_t1 c_t2 c_t3 c_t4 c_t5 c_t6 c_t7 c_t8 c_s0 c_s1 c_s2 c_s3 c_s4 c_s5 z_t z_s
          obtain ⟨c_t0, c_t1, c_t2, c_t3, c_t4, c_t5, c_t6, c_t7, c_t8, c_s0, c_s1, c_s2, c_s3, c_s4, c_s5⟩ := all_c
          try clear all_c
          obtain ⟨z_t, z_s⟩ := all_z
          try clear all_z
          have HB8 := Lib.hid (below_via hb8 HB7.out HB7.out.size)
          have HC8 := Lib.hid (below_via hb8 HC7.out HC7.out.size)
          clear hb8
          cases hf : fulB c H h sm with
          | false =>
            have hz8 := hbad.out i hlt2 (by rw [HWB.out, hf]; rfl)
            subst hz8
            go_wp2
            go_ret
            exact ⟨rfl, HB8.out⟩
          | true =>
            go_wp2_with fail
            refine (SP2.out _).mono ?_
            rintro e w9 ⟨rfl, hb9⟩
            have hz_w9 := hb9.size
            try simp only [World.size_alloc, World.size_setCell] at hz_w9
            have all_c : w9.cell? ⟨w.heap.size, 0, none⟩ = some (.int .u8 c.tag) ∧ w9.cell? ⟨w.heap.size, 1, none⟩ = some (.int .i64 c.most) ∧ w9.cell? ⟨w.heap.size, 2, none⟩ = some (.int .i64 c.seg) ∧ w9.cell? ⟨w.heap.size, 3, none⟩ = some (.int .i64 c.least) ∧ w9.cell? ⟨w.heap.size, 4, none⟩ = some (.int .i64 c.den) ∧ w9.cell? ⟨w.heap.size, 5, none⟩ = some (.int .i64 c.ll) ∧ w9.cell? ⟨w.heap.size, 6, none⟩ = some (.int .i64 c.rl) ∧ w9.cell? ⟨w.heap.size, 7, none⟩ = some (.int .i64 c.rh) ∧ w9.cell? ⟨w.heap.size, 8, none⟩ = some (.int .i64 c.lh) ∧ w9.cell? ⟨w.heap.size + 1, 0, none⟩ = some (.int .i64 seg) ∧ w9.cell? ⟨w.heap.size + 1, 1, none⟩ = some (.slice wa lw wc) ∧ w9.cell? ⟨w.heap.size + 1, 2, none⟩ = some (.slice ka n kc) ∧ w9.cell? ⟨w.heap.size + 1, 3, none⟩ = some (.slice va lv vc) ∧ w9.cell? ⟨w.heap.size + 1, 4, none⟩ = some (.slice ca lc cc) ∧ w9.cell? ⟨w.heap.size + 1, 5, none⟩ = some (.int .u64 laid) := by refine ⟨?_, ?_, ?_, ?_, ?_, ?_, ?_, ?_, ?_, ?_, ?_, ?_, ?_, ?_, ?_⟩ <;> (refine (hb9.cell ?_).trans ?_ <;> first | (first | (with_reducible assumption) | omega | (simp only [szW] <;> omega) | (simp <;> omega)) | (first | (with_reducible assumption) | ((try simp (disch := first | omega | (simp only [szW] <;> omega) | fail) only [ceW]) <;> first | (with_reducible assumption) | rfl)))
            have all_z : w.heap.size < w9.heap.size ∧ w.heap.size + 1 < w9.heap.size := by refine ⟨?_, ?_⟩ <;> (omega)
            clear c_t0 c_t1 c_t2 c_t3 c_t4 c_t5 c_t6 c_t7 c_t8 c_s0 c_s1 c_s2 c_s3 c_s4 c_s5 z_t z_s
            obtain ⟨c_t0, c_t1, c_t2, c_t3, c_t4, c_t5, c_t6, c_t7, c_t8, c_s0, c_s1, c_s2, c_s3, c_s4, c_s5⟩ := all_c
            try clear all_c
            obtain ⟨z_t, z_s⟩ := all_z
            try clear all_z
            have HB9 := Lib.hid (below_via hb9 HB8.out HB8.out.size)
            have HC9 := Lib.hid (below_via hb9 HC8.out HC8.out.size)
            clear hb9
            cases hg : sprB c n H h sm with
            | false =>
              have hz8 := hbad.out i hlt2 (by rw [HWB.out, hf, hg]; rfl)
              subst hz8
              go_wp2
              go_ret
              exact ⟨rfl, HB9.out⟩
            | true =>
              go_wp2
              go_roundg (gk - 1)
              case measure => have := HK2.out; omega
              case rel =>
                refine ⟨i + 1, by have := HK2.out; omega, by rw [HNX.out], Lib.hid fun j hj => ?_, HC9⟩
                by_cases hji : j = i
                · rw [hji, HWB.out, hf, hg]; rfl
                · exact HD2.out j (by omega)
        · have HK2 := Lib.hid hk2
          have him : i = m := by omega
          have hgo : decide (((i * Wd : Nat) : Int) < (n : Int)) = false := by have := HNN.out; rw [him, Nat.mul_comm]; simp; omega
          clear hk2
          generalize ((i * Wd : Nat) : Int) = x0 at *
          go_wp2
          go_roundg (go - 1)
          case measure => have := HK.out; omega
          case rel =>
            refine ⟨h + 1, by have := HK.out; omega, by go_num, Lib.hid fun h' hh' => ?_, Lib.hid (below_via HBB.out HW5.out HW5.out.size)⟩
            by_cases hji : h' = h
            · rw [hji]; exact hgood.out fun j hj => HD2.out j (by have := HK2.out; omega)
            · exact HD.out h' (by omega)
    · have hz0 : z = true := by
        rw [← HZ.out]
        exact List.all_eq_true.2 fun h' hh' => HD.out h' (by have := List.mem_range.1 hh'; omega)
      subst hz0
      have hgoh : decide ((h : Int) ≤ H) = false := by simp; omega
      clear hk
      go_wp2
      go_ret
      exact ⟨rfl, HC4.out⟩
set_option maxRecDepth 100000 in
set_option maxHeartbeats 1000000 in
theorem May09_m0 (c : Cfg) (hc : cfMay c = true) (seg : Int) (wa ka va ca : Option Addr) (wc kc vc cc lw n lv lc : Nat) (laid : Int) (w : World) (SM : Hid (∀ W, Below w.heap.size w W → Calls Try.prog 48 #[.agg #[.int .i64 seg, .slice wa lw wc, .slice ka n kc, .slice va lv vc, .slice ca lc cc, .int .u64 laid]] W (AnsB W (.bool false)))) :
    Calls Try.prog 30 #[.agg #[.int .u8 c.tag, .int .i64 c.most, .int .i64 c.seg, .int .i64 c.least, .int .i64 c.den, .int .i64 c.ll, .int .i64 c.rl, .int .i64 c.rh, .int .i64 c.lh], .agg #[.int .i64 seg, .slice wa lw wc, .slice ka n kc, .slice va lv vc, .slice ca lc cc, .int .u64 laid]] w (AnsB w (.bool false)) := by
  go_enter Try.func30, Try.ntmps30
  go_upto_region 1 with (fail)
  generalize hwx : (w.alloc (.cells #[.int .u8 c.tag, .int .i64 c.most, .int .i64 c.seg, .int .i64 c.least, .int .i64 c.den, .int .i64 c.ll, .int .i64 c.rl, .int .i64 c.rh, .int .i64 c.lh] 23)).alloc (.cells #[.int .i64 seg, .slice wa lw wc, .slice ka n kc, .slice va lv vc, .slice ca lc cc, .int .u64 laid] 29) = wx
  have c_t0 : wx.cell? ⟨w.heap.size, 0, none⟩ = some (.int .u8 c.tag) := by rw [← hwx]; (first | (with_reducible assumption) | ((simp only [World.frozen?_setCell, World.frozen?_drew, World.frozen?_drewN]) <;> (with_reducible assumption)) | ((repeat (first | (with_reducible assumption) | (with_reducible refine World.cell?_setCell_same _ _ _ (by with_reducible assumption)) | (rw [World.cell?_setCell_other _ _ _ _ (by intro e; simp at e; done)]) | (with_reducible refine cell_setCell_block ?_ ?_) | (rw [World.cell?_drew]) | (rw [World.cell?_drewN]) | (dsimp only; omega))); done) | (first | (with_reducible assumption) | ((try simp (disch := first | omega | (simp only [szW] <;> omega) | fail) only [ceW]) <;> first | (with_reducible assumption) | rfl)))
  have c_t1 : wx.cell? ⟨w.heap.size, 1, none⟩ = some (.int .i64 c.most) := by rw [← hwx]; (first | (with_reducible assumption) | ((simp only [World.frozen?_setCell, World.frozen?_drew, World.frozen?_drewN]) <;> (with_reducible assumption)) | ((repeat (first | (with_reducible assumption) | (with_reducible refine World.cell?_setCell_same _ _ _ (by with_reducible assumption)) | (rw [World.cell?_setCell_other _ _ _ _ (by intro e; simp at e; done)]) | (with_reducible refine cell_setCell_block ?_ ?_) | (rw [World.cell?_drew]) | (rw [World.cell?_drewN]) | (dsimp only; omega))); done) | (first | (with_reducible assumption) | ((try simp (disch := first | omega | (simp only [szW] <;> omega) | fail) only [ceW]) <;> first | (with_reducible assumption) | rfl)))
  have c_t2 : wx.cell? ⟨w.heap.size, 2, none⟩ = some (.int .i64 c.seg) := by rw [← hwx]; (first | (with_reducible assumption) | ((simp only [World.frozen?_setCell, World.frozen?_drew, World.frozen?_drewN]) <;> (with_reducible assumption)) | ((repeat (first | (with_reducible assumption) | (with_reducible refine World.cell?_setCell_same _ _ _ (by with_reducible assumption)) | (rw [World.cell?_setCell_other _ _ _ _ (by intro e; simp at e; done)]) | (with_reducible refine cell_setCell_block ?_ ?_) | (rw [World.cell?_drew]) | (rw [World.cell?_drewN]) | (dsimp only; omega))); done) | (first | (with_reducible assumption) | ((try simp (disch := first | omega | (simp only [szW] <;> omega) | fail) only [ceW]) <;> first | (with_reducible assumption) | rfl)))
  have c_t3 : wx.cell? ⟨w.heap.size, 3, none⟩ = some (.int .i64 c.least) := by rw [← hwx]; (first | (with_reducible assumption) | ((simp only [World.frozen?_setCell, World.frozen?_drew, World.frozen?_drewN]) <;> (with_reducible assumption)) | ((repeat (first | (with_reducible assumption) | (with_reducible refine World.cell?_setCell_same _ _ _ (by with_reducible assumption)) | (rw [World.cell?_setCell_other _ _ _ _ (by intro e; simp at e; done)]) | (with_reducible refine cell_setCell_block ?_ ?_) | (rw [World.cell?_drew]) | (rw [World.cell?_drewN]) | (dsimp only; omega))); done) | (first | (with_reducible assumption) | ((try simp (disch := first | omega | (simp only [szW] <;> omega) | fail) only [ceW]) <;> first | (with_reducible assumption) | rfl)))
  have c_t4 : wx.cell? ⟨w.heap.size, 4, none⟩ = some (.int .i64 c.den) := by rw [← hwx]; (first | (with_reducible assumption) | ((simp only [World.frozen?_setCell, World.frozen?_drew, World.frozen?_drewN]) <;> (with_reducible assumption)) | ((repeat (first | (with_reducible assumption) | (with_reducible refine World.cell?_setCell_same _ _ _ (by with_reducible assumption)) | (rw [World.cell?_setCell_other _ _ _ _ (by intro e; simp at e; done)]) | (with_reducible refine cell_setCell_block ?_ ?_) | (rw [World.cell?_drew]) | (rw [World.cell?_drewN]) | (dsimp only; omega))); done) | (first | (with_reducible assumption) | ((try simp (disch := first | omega | (simp only [szW] <;> omega) | fail) only [ceW]) <;> first | (with_reducible assumption) | rfl)))
  have c_t5 : wx.cell? ⟨w.heap.size, 5, none⟩ = some (.int .i64 c.ll) := by rw [← hwx]; (first | (with_reducible assumption) | ((simp only [World.frozen?_setCell, World.frozen?_drew, World.frozen?_drewN]) <;> (with_reducible assumption)) | ((repeat (first | (with_reducible assumption) | (with_reducible refine World.cell?_setCell_same _ _ _ (by with_reducible assumption)) | (rw [World.cell?_setCell_other _ _ _ _ (by intro e; simp at e; done)]) | (with_reducible refine cell_setCell_block ?_ ?_) | (rw [World.cell?_drew]) | (rw [World.cell?_drewN]) | (dsimp only; omega))); done) | (first | (with_reducible assumption) | ((try simp (disch := first | omega | (simp only [szW] <;> omega) | fail) only [ceW]) <;> first | (with_reducible assumption) | rfl)))
  have c_t6 : wx.cell? ⟨w.heap.size, 6, none⟩ = some (.int .i64 c.rl) := by rw [← hwx]; (first | (with_reducible assumption) | ((simp only [World.frozen?_setCell, World.frozen?_drew, World.frozen?_drewN]) <;> (with_reducible assumption)) | ((repeat (first | (with_reducible assumption) | (with_reducible refine World.cell?_setCell_same _ _ _ (by with_reducible assumption)) | (rw [World.cell?_setCell_other _ _ _ _ (by intro e; simp at e; done)]) | (with_reducible refine cell_setCell_block ?_ ?_) | (rw [World.cell?_drew]) | (rw [World.cell?_drewN]) | (dsimp only; omega))); done) | (first | (with_reducible assumption) | ((try simp (disch := first | omega | (simp only [szW] <;> omega) | fail) only [ceW]) <;> first | (with_reducible assumption) | rfl)))
  have c_t7 : wx.cell? ⟨w.heap.size, 7, none⟩ = some (.int .i64 c.rh) := by rw [← hwx]; (first | (with_reducible assumption) | ((simp only [World.frozen?_setCell, World.frozen?_drew, World.frozen?_drewN]) <;> (with_reducible assumption)) | ((repeat (first | (with_reducible assumption) | (with_reducible refine World.cell?_setCell_same _ _ _ (by with_reducible assumption)) | (rw [World.cell?_setCell_other _ _ _ _ (by intro e; simp at e; done)]) | (with_reducible refine cell_setCell_block ?_ ?_) | (rw [World.cell?_drew]) | (rw [World.cell?_drewN]) | (dsimp only; omega))); done) | (first | (with_reducible assumption) | ((try simp (disch := first | omega | (simp only [szW] <;> omega) | fail) only [ceW]) <;> first | (with_reducible assumption) | rfl)))
  have c_t8 : wx.cell? ⟨w.heap.size, 8, none⟩ = some (.int .i64 c.lh) := by rw [← hwx]; (first | (with_reducible assumption) | ((simp only [World.frozen?_setCell, World.frozen?_drew, World.frozen?_drewN]) <;> (with_reducible assumption)) | ((repeat (first | (with_reducible assumption) | (with_reducible refine World.cell?_setCell_same _ _ _ (by with_reducible assumption)) | (rw [World.cell?_setCell_other _ _ _ _ (by intro e; simp at e; done)]) | (with_reducible refine cell_setCell_block ?_ ?_) | (rw [World.cell?_drew]) | (rw [World.cell?_drewN]) | (dsimp only; omega))); done) | (first | (with_reducible assumption) | ((try simp (disch := first | omega | (simp only [szW] <;> omega) | fail) only [ceW]) <;> first | (with_reducible assumption) | rfl)))
  have z_t : w.heap.size < wx.heap.size := by rw [← hwx]; (first | (with_reducible assumption) | omega | (simp only [szW] <;> omega) | (simp <;> omega))
  have c_s0 : wx.cell? ⟨w.heap.size + 1, 0, none⟩ = some (.int .i64 seg) := by rw [← hwx]; (first | (with_reducible assumption) | ((simp only [World.frozen?_setCell, World.frozen?_drew, World.frozen?_drewN]) <;> (with_reducible assumption)) | ((repeat (first | (with_reducible assumption) | (with_reducible refine World.cell?_setCell_same _ _ _ (by with_reducible assumption)) | (rw [World.cell?_setCell_other _ _ _ _ (by intro e; simp at e; done)]) | (with_reducible refine cell_setCell_block ?_ ?_) | (rw [World.cell?_drew]) | (rw [World.cell?_drewN]) | (dsimp only; omega))); done) | (first | (with_reducible assumption) | ((try simp (disch := first | omega | (simp only [szW] <;> omega) | fail) only [ceW]) <;> first | (with_reducible assumption) | rfl)))
  have c_s1 : wx.cell? ⟨w.heap.size + 1, 1, none⟩ = some (.slice wa lw wc) := by rw [← hwx]; (first | (with_reducible assumption) | ((simp only [World.frozen?_setCell, World.frozen?_drew, World.frozen?_drewN]) <;> (with_reducible assumption)) | ((repeat (first | (with_reducible assumption) | (with_reducible refine World.cell?_setCell_same _ _ _ (by with_reducible assumption)) | (rw [World.cell?_setCell_other _ _ _ _ (by intro e; simp at e; done)]) | (with_reducible refine cell_setCell_block ?_ ?_) | (rw [World.cell?_drew]) | (rw [World.cell?_drewN]) | (dsimp only; omega))); done) | (first | (with_reducible assumption) | ((try simp (disch := first | omega | (simp only [szW] <;> omega) | fail) only [ceW]) <;> first | (with_reducible assumption) | rfl)))
  have c_s2 : wx.cell? ⟨w.heap.size + 1, 2, none⟩ = some (.slice ka n kc) := by rw [← hwx]; (first | (with_reducible assumption) | ((simp only [World.frozen?_setCell, World.frozen?_drew, World.frozen?_drewN]) <;> (with_reducible assumption)) | ((repeat (first | (with_reducible assumption) | (with_reducible refine World.cell?_setCell_same _ _ _ (by with_reducible assumption)) | (rw [World.cell?_setCell_other _ _ _ _ (by intro e; simp at e; done)]) | (with_reducible refine cell_setCell_block ?_ ?_) | (rw [World.cell?_drew]) | (rw [World.cell?_drewN]) | (dsimp only; omega))); done) | (first | (with_reducible assumption) | ((try simp (disch := first | omega | (simp only [szW] <;> omega) | fail) only [ceW]) <;> first | (with_reducible assumption) | rfl)))
  have c_s3 : wx.cell? ⟨w.heap.size + 1, 3, none⟩ = some (.slice va lv vc) := by rw [← hwx]; (first | (with_reducible assumption) | ((simp only [World.frozen?_setCell, World.frozen?_drew, World.frozen?_drewN]) <;> (with_reducible assumption)) | ((repeat (first | (with_reducible assumption) | (with_reducible refine World.cell?_setCell_same _ _ _ (by with_reducible assumption)) | (rw [World.cell?_setCell_other _ _ _ _ (by intro e; simp at e; done)]) | (with_reducible refine cell_setCell_block ?_ ?_) | (rw [World.cell?_drew]) | (rw [World.cell?_drewN]) | (dsimp only; omega))); done) | (first | (with_reducible assumption) | ((try simp (disch := first | omega | (simp only [szW] <;> omega) | fail) only [ceW]) <;> first | (with_reducible assumption) | rfl)))
  have c_s4 : wx.cell? ⟨w.heap.size + 1, 4, none⟩ = some (.slice ca lc cc) := by rw [← hwx]; (first | (with_reducible assumption) | ((simp only [World.frozen?_setCell, World.frozen?_drew, World.frozen?_drewN]) <;> (with_reducible assumption)) | ((repeat (first | (with_reducible assumption) | (with_reducible refine World.cell?_setCell_same _ _ _ (by with_reducible assumption)) | (rw [World.cell?_setCell_other _ _ _ _ (by intro e; simp at e; done)]) | (with_reducible refine cell_setCell_block ?_ ?_) | (rw [World.cell?_drew]) | (rw [World.cell?_drewN]) | (dsimp only; omega))); done) | (first | (with_reducible assumption) | ((try simp (disch := first | omega | (simp only [szW] <;> omega) | fail) only [ceW]) <;> first | (with_reducible assumption) | rfl)))
  have c_s5 : wx.cell? ⟨w.heap.size + 1, 5, none⟩ = some (.int .u64 laid) := by rw [← hwx]; (first | (with_reducible assumption) | ((simp only [World.frozen?_setCell, World.frozen?_drew, World.frozen?_drewN]) <;> (with_reducible assumption)) | ((repeat (first | (with_reducible assumption) | (with_reducible refine World.cell?_setCell_same _ _ _ (by with_reducible assumption)) | (rw [World.cell?_setCell_other _ _ _ _ (by intro e; simp at e; done)]) | (with_reducible refine cell_setCell_block ?_ ?_) | (rw [World.cell?_drew]) | (rw [World.cell?_drewN]) | (dsimp only; omega))); done) | (first | (with_reducible assumption) | ((try simp (disch := first | omega | (simp only [szW] <;> omega) | fail) only [ceW]) <;> first | (with_reducible assumption) | rfl)))
  have z_s : w.heap.size + 1 < wx.heap.size := by rw [← hwx]; (first | (with_reducible assumption) | omega | (simp only [szW] <;> omega) | (simp <;> omega))
  have HB2 : Hid (Below w.heap.size w wx) := by rw [← hwx]; exact Lib.hid (by (repeat (first | with_reducible (first | exact Below.refl _ _ | assumption | exact Hid.out (by assumption) | refine Below.alloc ?_ ?_ _ | refine Below.setCell ?_ ?_ _ | refine below_drewN ?_ _ | refine Below.drew ?_ | refine below_via (by assumption) ?_ ?_) | (first | (with_reducible assumption) | omega | (simp only [szW] <;> omega) | (simp <;> omega)))))
  clear hwx
  have K0 := Lib.hid (fun d os => Calls.regrown_of (w := wx) (d := d) (os := os) (SM.out (grow (redrawn wx d) os) (below_via (below_regrown _ _ _) HB2.out HB2.out.size)))
  have q0 := cell_regrown c_t0
  have q1 := cell_regrown c_t1
  have q2 := cell_regrown c_t2
  have q3 := cell_regrown c_t3
  have q4 := cell_regrown c_t4
  have q5 := cell_regrown c_t5
  have q6 := cell_regrown c_t6
  have q7 := cell_regrown c_t7
  have q8 := cell_regrown c_t8
  have q9 := cell_regrown c_s0
  have q10 := cell_regrown c_s1
  have q11 := cell_regrown c_s2
  have q12 := cell_regrown c_s3
  have q13 := cell_regrown c_s4
  have q14 := cell_regrown c_s5
  refine wp_region_quiet_below (by kernel_rfl) (by kernel_rfl) ?_
  repeat (go_big_quiet_step (first | with_reducible exact K0.out _ _ | exact K0.out _ _))
  refine wpQuiet_nil ?_
  intro _ hw'
  obtain ⟨⟨dq, osq⟩, hw''⟩ := hw'
  subst hw''
  have hbq := below_regrown wx dq osq
  clear q0 q1 q2 q3 q4 q5 q6 q7 q8 q9 q10 q11 q12 q13 q14 K0
  generalize Sort.grow (redrawn wx dq) osq = wy at *
  have HB3 := Lib.hid (below_via hbq HB2.out HB2.out.size)
  go_wp2
  go_ret
  exact ⟨rfl, HB3.out⟩
set_option maxRecDepth 100000 in
set_option maxHeartbeats 1000000 in
theorem May09_m1 (c : Cfg) (hc : cfMay c = true) (seg : Int) (wa ka va ca : Option Addr) (wc kc vc cc lw n lv lc : Nat) (laid : Int) (w : World) (hs : seg ≠ c.seg) (SM : Hid (∀ W, Below w.heap.size w W → Calls Try.prog 48 #[.agg #[.int .i64 seg, .slice wa lw wc, .slice ka n kc, .slice va lv vc, .slice ca lc cc, .int .u64 laid]] W (AnsB W (.bool true)))) :
    Calls Try.prog 30 #[.agg #[.int .u8 c.tag, .int .i64 c.most, .int .i64 c.seg, .int .i64 c.least, .int .i64 c.den, .int .i64 c.ll, .int .i64 c.rl, .int .i64 c.rh, .int .i64 c.lh], .agg #[.int .i64 seg, .slice wa lw wc, .slice ka n kc, .slice va lv vc, .slice ca lc cc, .int .u64 laid]] w (AnsB w (.bool false)) := by
  have gs : (seg == c.seg) = false := by simpa using hs
  clear hs
  go_enter Try.func30, Try.ntmps30
  go_upto_region 1 with (fail)
  generalize hwx : (w.alloc (.cells #[.int .u8 c.tag, .int .i64 c.most, .int .i64 c.seg, .int .i64 c.least, .int .i64 c.den, .int .i64 c.ll, .int .i64 c.rl, .int .i64 c.rh, .int .i64 c.lh] 23)).alloc (.cells #[.int .i64 seg, .slice wa lw wc, .slice ka n kc, .slice va lv vc, .slice ca lc cc, .int .u64 laid] 29) = wx
  have c_t0 : wx.cell? ⟨w.heap.size, 0, none⟩ = some (.int .u8 c.tag) := by rw [← hwx]; (first | (with_reducible assumption) | ((simp only [World.frozen?_setCell, World.frozen?_drew, World.frozen?_drewN]) <;> (with_reducible assumption)) | ((repeat (first | (with_reducible assumption) | (with_reducible refine World.cell?_setCell_same _ _ _ (by with_reducible assumption)) | (rw [World.cell?_setCell_other _ _ _ _ (by intro e; simp at e; done)]) | (with_reducible refine cell_setCell_block ?_ ?_) | (rw [World.cell?_drew]) | (rw [World.cell?_drewN]) | (dsimp only; omega))); done) | (first | (with_reducible assumption) | ((try simp (disch := first | omega | (simp only [szW] <;> omega) | fail) only [ceW]) <;> first | (with_reducible assumption) | rfl)))
  have c_t1 : wx.cell? ⟨w.heap.size, 1, none⟩ = some (.int .i64 c.most) := by rw [← hwx]; (first | (with_reducible assumption) | ((simp only [World.frozen?_setCell, World.frozen?_drew, World.frozen?_drewN]) <;> (with_reducible assumption)) | ((repeat (first | (with_reducible assumption) | (with_reducible refine World.cell?_setCell_same _ _ _ (by with_reducible assumption)) | (rw [World.cell?_setCell_other _ _ _ _ (by intro e; simp at e; done)]) | (with_reducible refine cell_setCell_block ?_ ?_) | (rw [World.cell?_drew]) | (rw [World.cell?_drewN]) | (dsimp only; omega))); done) | (first | (with_reducible assumption) | ((try simp (disch := first | omega | (simp only [szW] <;> omega) | fail) only [ceW]) <;> first | (with_reducible assumption) | rfl)))
  have c_t2 : wx.cell? ⟨w.heap.size, 2, none⟩ = some (.int .i64 c.seg) := by rw [← hwx]; (first | (with_reducible assumption) | ((simp only [World.frozen?_setCell, World.frozen?_drew, World.frozen?_drewN]) <;> (with_reducible assumption)) | ((repeat (first | (with_reducible assumption) | (with_reducible refine World.cell?_setCell_same _ _ _ (by with_reducible assumption)) | (rw [World.cell?_setCell_other _ _ _ _ (by intro e; simp at e; done)]) | (with_reducible refine cell_setCell_block ?_ ?_) | (rw [World.cell?_drew]) | (rw [World.cell?_drewN]) | (dsimp only; omega))); done) | (first | (with_reducible assumption) | ((try simp (disch := first | omega | (simp only [szW] <;> omega) | fail) only [ceW]) <;> first | (with_reducible assumption) | rfl)))
  have c_t3 : wx.cell? ⟨w.heap.size, 3, none⟩ = some (.int .i64 c.least) := by rw [← hwx]; (first | (with_reducible assumption) | ((simp only [World.frozen?_setCell, World.frozen?_drew, World.frozen?_drewN]) <;> (with_reducible assumption)) | ((repeat (first | (with_reducible assumption) | (with_reducible refine World.cell?_setCell_same _ _ _ (by with_reducible assumption)) | (rw [World.cell?_setCell_other _ _ _ _ (by intro e; simp at e; done)]) | (with_reducible refine cell_setCell_block ?_ ?_) | (rw [World.cell?_drew]) | (rw [World.cell?_drewN]) | (dsimp only; omega))); done) | (first | (with_reducible assumption) | ((try simp (disch := first | omega | (simp only [szW] <;> omega) | fail) only [ceW]) <;> first | (with_reducible assumption) | rfl)))
  have c_t4 : wx.cell? ⟨w.heap.size, 4, none⟩ = some (.int .i64 c.den) := by rw [← hwx]; (first | (with_reducible assumption) | ((simp only [World.frozen?_setCell, World.frozen?_drew, World.frozen?_drewN]) <;> (with_reducible assumption)) | ((repeat (first | (with_reducible assumption) | (with_reducible refine World.cell?_setCell_same _ _ _ (by with_reducible assumption)) | (rw [World.cell?_setCell_other _ _ _ _ (by intro e; simp at e; done)]) | (with_reducible refine cell_setCell_block ?_ ?_) | (rw [World.cell?_drew]) | (rw [World.cell?_drewN]) | (dsimp only; omega))); done) | (first | (with_reducible assumption) | ((try simp (disch := first | omega | (simp only [szW] <;> omega) | fail) only [ceW]) <;> first | (with_reducible assumption) | rfl)))
  have c_t5 : wx.cell? ⟨w.heap.size, 5, none⟩ = some (.int .i64 c.ll) := by rw [← hwx]; (first | (with_reducible assumption) | ((simp only [World.frozen?_setCell, World.frozen?_drew, World.frozen?_drewN]) <;> (with_reducible assumption)) | ((repeat (first | (with_reducible assumption) | (with_reducible refine World.cell?_setCell_same _ _ _ (by with_reducible assumption)) | (rw [World.cell?_setCell_other _ _ _ _ (by intro e; simp at e; done)]) | (with_reducible refine cell_setCell_block ?_ ?_) | (rw [World.cell?_drew]) | (rw [World.cell?_drewN]) | (dsimp only; omega))); done) | (first | (with_reducible assumption) | ((try simp (disch := first | omega | (simp only [szW] <;> omega) | fail) only [ceW]) <;> first | (with_reducible assumption) | rfl)))
  have c_t6 : wx.cell? ⟨w.heap.size, 6, none⟩ = some (.int .i64 c.rl) := by rw [← hwx]; (first | (with_reducible assumption) | ((simp only [World.frozen?_setCell, World.frozen?_drew, World.frozen?_drewN]) <;> (with_reducible assumption)) | ((repeat (first | (with_reducible assumption) | (with_reducible refine World.cell?_setCell_same _ _ _ (by with_reducible assumption)) | (rw [World.cell?_setCell_other _ _ _ _ (by intro e; simp at e; done)]) | (with_reducible refine cell_setCell_block ?_ ?_) | (rw [World.cell?_drew]) | (rw [World.cell?_drewN]) | (dsimp only; omega))); done) | (first | (with_reducible assumption) | ((try simp (disch := first | omega | (simp only [szW] <;> omega) | fail) only [ceW]) <;> first | (with_reducible assumption) | rfl)))
  have c_t7 : wx.cell? ⟨w.heap.size, 7, none⟩ = some (.int .i64 c.rh) := by rw [← hwx]; (first | (with_reducible assumption) | ((simp only [World.frozen?_setCell, World.frozen?_drew, World.frozen?_drewN]) <;> (with_reducible assumption)) | ((repeat (first | (with_reducible assumption) | (with_reducible refine World.cell?_setCell_same _ _ _ (by with_reducible assumption)) | (rw [World.cell?_setCell_other _ _ _ _ (by intro e; simp at e; done)]) | (with_reducible refine cell_setCell_block ?_ ?_) | (rw [World.cell?_drew]) | (rw [World.cell?_drewN]) | (dsimp only; omega))); done) | (first | (with_reducible assumption) | ((try simp (disch := first | omega | (simp only [szW] <;> omega) | fail) only [ceW]) <;> first | (with_reducible assumption) | rfl)))
  have c_t8 : wx.cell? ⟨w.heap.size, 8, none⟩ = some (.int .i64 c.lh) := by rw [← hwx]; (first | (with_reducible assumption) | ((simp only [World.frozen?_setCell, World.frozen?_drew, World.frozen?_drewN]) <;> (with_reducible assumption)) | ((repeat (first | (with_reducible assumption) | (with_reducible refine World.cell?_setCell_same _ _ _ (by with_reducible assumption)) | (rw [World.cell?_setCell_other _ _ _ _ (by intro e; simp at e; done)]) | (with_reducible refine cell_setCell_block ?_ ?_) | (rw [World.cell?_drew]) | (rw [World.cell?_drewN]) | (dsimp only; omega))); done) | (first | (with_reducible assumption) | ((try simp (disch := first | omega | (simp only [szW] <;> omega) | fail) only [ceW]) <;> first | (with_reducible assumption) | rfl)))
  have z_t : w.heap.size < wx.heap.size := by rw [← hwx]; (first | (with_reducible assumption) | omega | (simp only [szW] <;> omega) | (simp <;> omega))
  have c_s0 : wx.cell? ⟨w.heap.size + 1, 0, none⟩ = some (.int .i64 seg) := by rw [← hwx]; (first | (with_reducible assumption) | ((simp only [World.frozen?_setCell, World.frozen?_drew, World.frozen?_drewN]) <;> (with_reducible assumption)) | ((repeat (first | (with_reducible assumption) | (with_reducible refine World.cell?_setCell_same _ _ _ (by with_reducible assumption)) | (rw [World.cell?_setCell_other _ _ _ _ (by intro e; simp at e; done)]) | (with_reducible refine cell_setCell_block ?_ ?_) | (rw [World.cell?_drew]) | (rw [World.cell?_drewN]) | (dsimp only; omega))); done) | (first | (with_reducible assumption) | ((try simp (disch := first | omega | (simp only [szW] <;> omega) | fail) only [ceW]) <;> first | (with_reducible assumption) | rfl)))
  have c_s1 : wx.cell? ⟨w.heap.size + 1, 1, none⟩ = some (.slice wa lw wc) := by rw [← hwx]; (first | (with_reducible assumption) | ((simp only [World.frozen?_setCell, World.frozen?_drew, World.frozen?_drewN]) <;> (with_reducible assumption)) | ((repeat (first | (with_reducible assumption) | (with_reducible refine World.cell?_setCell_same _ _ _ (by with_reducible assumption)) | (rw [World.cell?_setCell_other _ _ _ _ (by intro e; simp at e; done)]) | (with_reducible refine cell_setCell_block ?_ ?_) | (rw [World.cell?_drew]) | (rw [World.cell?_drewN]) | (dsimp only; omega))); done) | (first | (with_reducible assumption) | ((try simp (disch := first | omega | (simp only [szW] <;> omega) | fail) only [ceW]) <;> first | (with_reducible assumption) | rfl)))
  have c_s2 : wx.cell? ⟨w.heap.size + 1, 2, none⟩ = some (.slice ka n kc) := by rw [← hwx]; (first | (with_reducible assumption) | ((simp only [World.frozen?_setCell, World.frozen?_drew, World.frozen?_drewN]) <;> (with_reducible assumption)) | ((repeat (first | (with_reducible assumption) | (with_reducible refine World.cell?_setCell_same _ _ _ (by with_reducible assumption)) | (rw [World.cell?_setCell_other _ _ _ _ (by intro e; simp at e; done)]) | (with_reducible refine cell_setCell_block ?_ ?_) | (rw [World.cell?_drew]) | (rw [World.cell?_drewN]) | (dsimp only; omega))); done) | (first | (with_reducible assumption) | ((try simp (disch := first | omega | (simp only [szW] <;> omega) | fail) only [ceW]) <;> first | (with_reducible assumption) | rfl)))
  have c_s3 : wx.cell? ⟨w.heap.size + 1, 3, none⟩ = some (.slice va lv vc) := by rw [← hwx]; (first | (with_reducible assumption) | ((simp only [World.frozen?_setCell, World.frozen?_drew, World.frozen?_drewN]) <;> (with_reducible assumption)) | ((repeat (first | (with_reducible assumption) | (with_reducible refine World.cell?_setCell_same _ _ _ (by with_reducible assumption)) | (rw [World.cell?_setCell_other _ _ _ _ (by intro e; simp at e; done)]) | (with_reducible refine cell_setCell_block ?_ ?_) | (rw [World.cell?_drew]) | (rw [World.cell?_drewN]) | (dsimp only; omega))); done) | (first | (with_reducible assumption) | ((try simp (disch := first | omega | (simp only [szW] <;> omega) | fail) only [ceW]) <;> first | (with_reducible assumption) | rfl)))
  have c_s4 : wx.cell? ⟨w.heap.size + 1, 4, none⟩ = some (.slice ca lc cc) := by rw [← hwx]; (first | (with_reducible assumption) | ((simp only [World.frozen?_setCell, World.frozen?_drew, World.frozen?_drewN]) <;> (with_reducible assumption)) | ((repeat (first | (with_reducible assumption) | (with_reducible refine World.cell?_setCell_same _ _ _ (by with_reducible assumption)) | (rw [World.cell?_setCell_other _ _ _ _ (by intro e; simp at e; done)]) | (with_reducible refine cell_setCell_block ?_ ?_) | (rw [World.cell?_drew]) | (rw [World.cell?_drewN]) | (dsimp only; omega))); done) | (first | (with_reducible assumption) | ((try simp (disch := first | omega | (simp only [szW] <;> omega) | fail) only [ceW]) <;> first | (with_reducible assumption) | rfl)))
  have c_s5 : wx.cell? ⟨w.heap.size + 1, 5, none⟩ = some (.int .u64 laid) := by rw [← hwx]; (first | (with_reducible assumption) | ((simp only [World.frozen?_setCell, World.frozen?_drew, World.frozen?_drewN]) <;> (with_reducible assumption)) | ((repeat (first | (with_reducible assumption) | (with_reducible refine World.cell?_setCell_same _ _ _ (by with_reducible assumption)) | (rw [World.cell?_setCell_other _ _ _ _ (by intro e; simp at e; done)]) | (with_reducible refine cell_setCell_block ?_ ?_) | (rw [World.cell?_drew]) | (rw [World.cell?_drewN]) | (dsimp only; omega))); done) | (first | (with_reducible assumption) | ((try simp (disch := first | omega | (simp only [szW] <;> omega) | fail) only [ceW]) <;> first | (with_reducible assumption) | rfl)))
  have z_s : w.heap.size + 1 < wx.heap.size := by rw [← hwx]; (first | (with_reducible assumption) | omega | (simp only [szW] <;> omega) | (simp <;> omega))
  have HB2 : Hid (Below w.heap.size w wx) := by rw [← hwx]; exact Lib.hid (by (repeat (first | with_reducible (first | exact Below.refl _ _ | assumption | exact Hid.out (by assumption) | refine Below.alloc ?_ ?_ _ | refine Below.setCell ?_ ?_ _ | refine below_drewN ?_ _ | refine Below.drew ?_ | refine below_via (by assumption) ?_ ?_) | (first | (with_reducible assumption) | omega | (simp only [szW] <;> omega) | (simp <;> omega)))))
  clear hwx
  have K0 := Lib.hid (fun d os => Calls.regrown_of (w := wx) (d := d) (os := os) (SM.out (grow (redrawn wx d) os) (below_via (below_regrown _ _ _) HB2.out HB2.out.size)))
  have q0 := cell_regrown c_t0
  have q1 := cell_regrown c_t1
  have q2 := cell_regrown c_t2
  have q3 := cell_regrown c_t3
  have q4 := cell_regrown c_t4
  have q5 := cell_regrown c_t5
  have q6 := cell_regrown c_t6
  have q7 := cell_regrown c_t7
  have q8 := cell_regrown c_t8
  have q9 := cell_regrown c_s0
  have q10 := cell_regrown c_s1
  have q11 := cell_regrown c_s2
  have q12 := cell_regrown c_s3
  have q13 := cell_regrown c_s4
  have q14 := cell_regrown c_s5
  refine wp_region_quiet_below (by kernel_rfl) (by kernel_rfl) ?_
  repeat (go_big_quiet_step (first | with_reducible exact K0.out _ _ | exact K0.out _ _))
  refine wpQuiet_nil ?_
  intro _ hw'
  obtain ⟨⟨dq, osq⟩, hw''⟩ := hw'
  subst hw''
  have hbq := below_regrown wx dq osq
  clear q0 q1 q2 q3 q4 q5 q6 q7 q8 q9 q10 q11 q12 q13 q14 K0
  generalize Sort.grow (redrawn wx dq) osq = wy at *
  have HB3 := Lib.hid (below_via hbq HB2.out HB2.out.size)
  go_wp2
  go_ret
  exact ⟨rfl, HB3.out⟩
set_option maxRecDepth 100000 in
set_option maxHeartbeats 1000000 in
theorem May09_m2 (c : Cfg) (hc : cfMay c = true) (seg : Int) (wa ka va ca : Option Addr) (wc kc vc cc lw n lv lc : Nat) (laid : Int) (w : World) (hs : seg = c.seg) (hp : powB n c.least (taks c c.most) = false) (SM : Hid (∀ W, Below w.heap.size w W → Calls Try.prog 48 #[.agg #[.int .i64 seg, .slice wa lw wc, .slice ka n kc, .slice va lv vc, .slice ca lc cc, .int .u64 laid]] W (AnsB W (.bool true)))) :
    Calls Try.prog 30 #[.agg #[.int .u8 c.tag, .int .i64 c.most, .int .i64 c.seg, .int .i64 c.least, .int .i64 c.den, .int .i64 c.ll, .int .i64 c.rl, .int .i64 c.rh, .int .i64 c.lh], .agg #[.int .i64 seg, .slice wa lw wc, .slice ka n kc, .slice va lv vc, .slice ca lc cc, .int .u64 laid]] w (AnsB w (.bool false)) := by
  have gs : (seg == c.seg) = true := by simpa using hs
  clear hs
  have IS := Lib.hid (fun W => Is05_ok c (cfMay_head hc) n W)
  rw [hp] at IS
  go_enter Try.func30, Try.ntmps30
  go_upto_region 1 with (fail)
  generalize hwx : (w.alloc (.cells #[.int .u8 c.tag, .int .i64 c.most, .int .i64 c.seg, .int .i64 c.least, .int .i64 c.den, .int .i64 c.ll, .int .i64 c.rl, .int .i64 c.rh, .int .i64 c.lh] 23)).alloc (.cells #[.int .i64 seg, .slice wa lw wc, .slice ka n kc, .slice va lv vc, .slice ca lc cc, .int .u64 laid] 29) = wx
  have c_t0 : wx.cell? ⟨w.heap.size, 0, none⟩ = some (.int .u8 c.tag) := by rw [← hwx]; (first | (with_reducible assumption) | ((simp only [World.frozen?_setCell, World.frozen?_drew, World.frozen?_drewN]) <;> (with_reducible assumption)) | ((repeat (first | (with_reducible assumption) | (with_reducible refine World.cell?_setCell_same _ _ _ (by with_reducible assumption)) | (rw [World.cell?_setCell_other _ _ _ _ (by intro e; simp at e; done)]) | (with_reducible refine cell_setCell_block ?_ ?_) | (rw [World.cell?_drew]) | (rw [World.cell?_drewN]) | (dsimp only; omega))); done) | (first | (with_reducible assumption) | ((try simp (disch := first | omega | (simp only [szW] <;> omega) | fail) only [ceW]) <;> first | (with_reducible assumption) | rfl)))
  have c_t1 : wx.cell? ⟨w.heap.size, 1, none⟩ = some (.int .i64 c.most) := by rw [← hwx]; (first | (with_reducible assumption) | ((simp only [World.frozen?_setCell, World.frozen?_drew, World.frozen?_drewN]) <;> (with_reducible assumption)) | ((repeat (first | (with_reducible assumption) | (with_reducible refine World.cell?_setCell_same _ _ _ (by with_reducible assumption)) | (rw [World.cell?_setCell_other _ _ _ _ (by intro e; simp at e; done)]) | (with_reducible refine cell_setCell_block ?_ ?_) | (rw [World.cell?_drew]) | (rw [World.cell?_drewN]) | (dsimp only; omega))); done) | (first | (with_reducible assumption) | ((try simp (disch := first | omega | (simp only [szW] <;> omega) | fail) only [ceW]) <;> first | (with_reducible assumption) | rfl)))
  have c_t2 : wx.cell? ⟨w.heap.size, 2, none⟩ = some (.int .i64 c.seg) := by rw [← hwx]; (first | (with_reducible assumption) | ((simp only [World.frozen?_setCell, World.frozen?_drew, World.frozen?_drewN]) <;> (with_reducible assumption)) | ((repeat (first | (with_reducible assumption) | (with_reducible refine World.cell?_setCell_same _ _ _ (by with_reducible assumption)) | (rw [World.cell?_setCell_other _ _ _ _ (by intro e; simp at e; done)]) | (with_reducible refine cell_setCell_block ?_ ?_) | (rw [World.cell?_drew]) | (rw [World.cell?_drewN]) | (dsimp only; omega))); done) | (first | (with_reducible assumption) | ((try simp (disch := first | omega | (simp only [szW] <;> omega) | fail) only [ceW]) <;> first | (with_reducible assumption) | rfl)))
  have c_t3 : wx.cell? ⟨w.heap.size, 3, none⟩ = some (.int .i64 c.least) := by rw [← hwx]; (first | (with_reducible assumption) | ((simp only [World.frozen?_setCell, World.frozen?_drew, World.frozen?_drewN]) <;> (with_reducible assumption)) | ((repeat (first | (with_reducible assumption) | (with_reducible refine World.cell?_setCell_same _ _ _ (by with_reducible assumption)) | (rw [World.cell?_setCell_other _ _ _ _ (by intro e; simp at e; done)]) | (with_reducible refine cell_setCell_block ?_ ?_) | (rw [World.cell?_drew]) | (rw [World.cell?_drewN]) | (dsimp only; omega))); done) | (first | (with_reducible assumption) | ((try simp (disch := first | omega | (simp only [szW] <;> omega) | fail) only [ceW]) <;> first | (with_reducible assumption) | rfl)))
  have c_t4 : wx.cell? ⟨w.heap.size, 4, none⟩ = some (.int .i64 c.den) := by rw [← hwx]; (first | (with_reducible assumption) | ((simp only [World.frozen?_setCell, World.frozen?_drew, World.frozen?_drewN]) <;> (with_reducible assumption)) | ((repeat (first | (with_reducible assumption) | (with_reducible refine World.cell?_setCell_same _ _ _ (by with_reducible assumption)) | (rw [World.cell?_setCell_other _ _ _ _ (by intro e; simp at e; done)]) | (with_reducible refine cell_setCell_block ?_ ?_) | (rw [World.cell?_drew]) | (rw [World.cell?_drewN]) | (dsimp only; omega))); done) | (first | (with_reducible assumption) | ((try simp (disch := first | omega | (simp only [szW] <;> omega) | fail) only [ceW]) <;> first | (with_reducible assumption) | rfl)))
  have c_t5 : wx.cell? ⟨w.heap.size, 5, none⟩ = some (.int .i64 c.ll) := by rw [← hwx]; (first | (with_reducible assumption) | ((simp only [World.frozen?_setCell, World.frozen?_drew, World.frozen?_drewN]) <;> (with_reducible assumption)) | ((repeat (first | (with_reducible assumption) | (with_reducible refine World.cell?_setCell_same _ _ _ (by with_reducible assumption)) | (rw [World.cell?_setCell_other _ _ _ _ (by intro e; simp at e; done)]) | (with_reducible refine cell_setCell_block ?_ ?_) | (rw [World.cell?_drew]) | (rw [World.cell?_drewN]) | (dsimp only; omega))); done) | (first | (with_reducible assumption) | ((try simp (disch := first | omega | (simp only [szW] <;> omega) | fail) only [ceW]) <;> first | (with_reducible assumption) | rfl)))
  have c_t6 : wx.cell? ⟨w.heap.size, 6, none⟩ = some (.int .i64 c.rl) := by rw [← hwx]; (first | (with_reducible assumption) | ((simp only [World.frozen?_setCell, World.frozen?_drew, World.frozen?_drewN]) <;> (with_reducible assumption)) | ((repeat (first | (with_reducible assumption) | (with_reducible refine World.cell?_setCell_same _ _ _ (by with_reducible assumption)) | (rw [World.cell?_setCell_other _ _ _ _ (by intro e; simp at e; done)]) | (with_reducible refine cell_setCell_block ?_ ?_) | (rw [World.cell?_drew]) | (rw [World.cell?_drewN]) | (dsimp only; omega))); done) | (first | (with_reducible assumption) | ((try simp (disch := first | omega | (simp only [szW] <;> omega) | fail) only [ceW]) <;> first | (with_reducible assumption) | rfl)))
  have c_t7 : wx.cell? ⟨w.heap.size, 7, none⟩ = some (.int .i64 c.rh) := by rw [← hwx]; (first | (with_reducible assumption) | ((simp only [World.frozen?_setCell, World.frozen?_drew, World.frozen?_drewN]) <;> (with_reducible assumption)) | ((repeat (first | (with_reducible assumption) | (with_reducible refine World.cell?_setCell_same _ _ _ (by with_reducible assumption)) | (rw [World.cell?_setCell_other _ _ _ _ (by intro e; simp at e; done)]) | (with_reducible refine cell_setCell_block ?_ ?_) | (rw [World.cell?_drew]) | (rw [World.cell?_drewN]) | (dsimp only; omega))); done) | (first | (with_reducible assumption) | ((try simp (disch := first | omega | (simp only [szW] <;> omega) | fail) only [ceW]) <;> first | (with_reducible assumption) | rfl)))
  have c_t8 : wx.cell? ⟨w.heap.size, 8, none⟩ = some (.int .i64 c.lh) := by rw [← hwx]; (first | (with_reducible assumption) | ((simp only [World.frozen?_setCell, World.frozen?_drew, World.frozen?_drewN]) <;> (with_reducible assumption)) | ((repeat (first | (with_reducible assumption) | (with_reducible refine World.cell?_setCell_same _ _ _ (by with_reducible assumption)) | (rw [World.cell?_setCell_other _ _ _ _ (by intro e; simp at e; done)]) | (with_reducible refine cell_setCell_block ?_ ?_) | (rw [World.cell?_drew]) | (rw [World.cell?_drewN]) | (dsimp only; omega))); done) | (first | (with_reducible assumption) | ((try simp (disch := first | omega | (simp only [szW] <;> omega) | fail) only [ceW]) <;> first | (with_reducible assumption) | rfl)))
  have z_t : w.heap.size < wx.heap.size := by rw [← hwx]; (first | (with_reducible assumption) | omega | (simp only [szW] <;> omega) | (simp <;> omega))
  have c_s0 : wx.cell? ⟨w.heap.size + 1, 0, none⟩ = some (.int .i64 seg) := by rw [← hwx]; (first | (with_reducible assumption) | ((simp only [World.frozen?_setCell, World.frozen?_drew, World.frozen?_drewN]) <;> (with_reducible assumption)) | ((repeat (first | (with_reducible assumption) | (with_reducible refine World.cell?_setCell_same _ _ _ (by with_reducible assumption)) | (rw [World.cell?_setCell_other _ _ _ _ (by intro e; simp at e; done)]) | (with_reducible refine cell_setCell_block ?_ ?_) | (rw [World.cell?_drew]) | (rw [World.cell?_drewN]) | (dsimp only; omega))); done) | (first | (with_reducible assumption) | ((try simp (disch := first | omega | (simp only [szW] <;> omega) | fail) only [ceW]) <;> first | (with_reducible assumption) | rfl)))
  have c_s1 : wx.cell? ⟨w.heap.size + 1, 1, none⟩ = some (.slice wa lw wc) := by rw [← hwx]; (first | (with_reducible assumption) | ((simp only [World.frozen?_setCell, World.frozen?_drew, World.frozen?_drewN]) <;> (with_reducible assumption)) | ((repeat (first | (with_reducible assumption) | (with_reducible refine World.cell?_setCell_same _ _ _ (by with_reducible assumption)) | (rw [World.cell?_setCell_other _ _ _ _ (by intro e; simp at e; done)]) | (with_reducible refine cell_setCell_block ?_ ?_) | (rw [World.cell?_drew]) | (rw [World.cell?_drewN]) | (dsimp only; omega))); done) | (first | (with_reducible assumption) | ((try simp (disch := first | omega | (simp only [szW] <;> omega) | fail) only [ceW]) <;> first | (with_reducible assumption) | rfl)))
  have c_s2 : wx.cell? ⟨w.heap.size + 1, 2, none⟩ = some (.slice ka n kc) := by rw [← hwx]; (first | (with_reducible assumption) | ((simp only [World.frozen?_setCell, World.frozen?_drew, World.frozen?_drewN]) <;> (with_reducible assumption)) | ((repeat (first | (with_reducible assumption) | (with_reducible refine World.cell?_setCell_same _ _ _ (by with_reducible assumption)) | (rw [World.cell?_setCell_other _ _ _ _ (by intro e; simp at e; done)]) | (with_reducible refine cell_setCell_block ?_ ?_) | (rw [World.cell?_drew]) | (rw [World.cell?_drewN]) | (dsimp only; omega))); done) | (first | (with_reducible assumption) | ((try simp (disch := first | omega | (simp only [szW] <;> omega) | fail) only [ceW]) <;> first | (with_reducible assumption) | rfl)))
  have c_s3 : wx.cell? ⟨w.heap.size + 1, 3, none⟩ = some (.slice va lv vc) := by rw [← hwx]; (first | (with_reducible assumption) | ((simp only [World.frozen?_setCell, World.frozen?_drew, World.frozen?_drewN]) <;> (with_reducible assumption)) | ((repeat (first | (with_reducible assumption) | (with_reducible refine World.cell?_setCell_same _ _ _ (by with_reducible assumption)) | (rw [World.cell?_setCell_other _ _ _ _ (by intro e; simp at e; done)]) | (with_reducible refine cell_setCell_block ?_ ?_) | (rw [World.cell?_drew]) | (rw [World.cell?_drewN]) | (dsimp only; omega))); done) | (first | (with_reducible assumption) | ((try simp (disch := first | omega | (simp only [szW] <;> omega) | fail) only [ceW]) <;> first | (with_reducible assumption) | rfl)))
  have c_s4 : wx.cell? ⟨w.heap.size + 1, 4, none⟩ = some (.slice ca lc cc) := by rw [← hwx]; (first | (with_reducible assumption) | ((simp only [World.frozen?_setCell, World.frozen?_drew, World.frozen?_drewN]) <;> (with_reducible assumption)) | ((repeat (first | (with_reducible assumption) | (with_reducible refine World.cell?_setCell_same _ _ _ (by with_reducible assumption)) | (rw [World.cell?_setCell_other _ _ _ _ (by intro e; simp at e; done)]) | (with_reducible refine cell_setCell_block ?_ ?_) | (rw [World.cell?_drew]) | (rw [World.cell?_drewN]) | (dsimp only; omega))); done) | (first | (with_reducible assumption) | ((try simp (disch := first | omega | (simp only [szW] <;> omega) | fail) only [ceW]) <;> first | (with_reducible assumption) | rfl)))
  have c_s5 : wx.cell? ⟨w.heap.size + 1, 5, none⟩ = some (.int .u64 laid) := by rw [← hwx]; (first | (with_reducible assumption) | ((simp only [World.frozen?_setCell, World.frozen?_drew, World.frozen?_drewN]) <;> (with_reducible assumption)) | ((repeat (first | (with_reducible assumption) | (with_reducible refine World.cell?_setCell_same _ _ _ (by with_reducible assumption)) | (rw [World.cell?_setCell_other _ _ _ _ (by intro e; simp at e; done)]) | (with_reducible refine cell_setCell_block ?_ ?_) | (rw [World.cell?_drew]) | (rw [World.cell?_drewN]) | (dsimp only; omega))); done) | (first | (with_reducible assumption) | ((try simp (disch := first | omega | (simp only [szW] <;> omega) | fail) only [ceW]) <;> first | (with_reducible assumption) | rfl)))
  have z_s : w.heap.size + 1 < wx.heap.size := by rw [← hwx]; (first | (with_reducible assumption) | omega | (simp only [szW] <;> omega) | (simp <;> omega))
  have HB2 : Hid (Below w.heap.size w wx) := by rw [← hwx]; exact Lib.hid (by (repeat (first | with_reducible (first | exact Below.refl _ _ | assumption | exact Hid.out (by assumption) | refine Below.alloc ?_ ?_ _ | refine Below.setCell ?_ ?_ _ | refine below_drewN ?_ _ | refine Below.drew ?_ | refine below_via (by assumption) ?_ ?_) | (first | (with_reducible assumption) | omega | (simp only [szW] <;> omega) | (simp <;> omega)))))
  clear hwx
  have K0 := Lib.hid (fun d os => Calls.regrown_of (w := wx) (d := d) (os := os) (SM.out (grow (redrawn wx d) os) (below_via (below_regrown _ _ _) HB2.out HB2.out.size)))
  have K1 := Lib.hid (fun d os => Calls.regrown_of (w := wx) (d := d) (os := os) (IS.out (grow (redrawn wx d) os)))
  have q0 := cell_regrown c_t0
  have q1 := cell_regrown c_t1
  have q2 := cell_regrown c_t2
  have q3 := cell_regrown c_t3
  have q4 := cell_regrown c_t4
  have q5 := cell_regrown c_t5
  have q6 := cell_regrown c_t6
  have q7 := cell_regrown c_t7
  have q8 := cell_regrown c_t8
  have q9 := cell_regrown c_s0
  have q10 := cell_regrown c_s1
  have q11 := cell_regrown c_s2
  have q12 := cell_regrown c_s3
  have q13 := cell_regrown c_s4
  have q14 := cell_regrown c_s5
  refine wp_region_quiet_below (by kernel_rfl) (by kernel_rfl) ?_
  repeat (go_big_quiet_step (first | with_reducible exact K0.out _ _ | with_reducible exact K1.out _ _ | exact K0.out _ _ | exact K1.out _ _))
  refine wpQuiet_nil ?_
  intro _ hw'
  obtain ⟨⟨dq, osq⟩, hw''⟩ := hw'
  subst hw''
  have hbq := below_regrown wx dq osq
  clear q0 q1 q2 q3 q4 q5 q6 q7 q8 q9 q10 q11 q12 q13 q14 K0 K1
  generalize Sort.grow (redrawn wx dq) osq = wy at *
  have HB3 := Lib.hid (below_via hbq HB2.out HB2.out.size)
  go_wp2
  go_ret
  exact ⟨rfl, HB3.out⟩
set_option maxRecDepth 100000 in
set_option maxHeartbeats 1000000 in
theorem May09_m3 (c : Cfg) (hc : cfMay c = true) (seg : Int) (wa ka va ca : Option Addr) (wc kc vc cc lw n lv lc : Nat) (laid : Int) (w : World) (hs : seg = c.seg) (hp : powB n c.least (taks c c.most) = true) (many : Int) (hm : c.most < many) (SM : Hid (∀ W, Below w.heap.size w W → Calls Try.prog 48 #[.agg #[.int .i64 seg, .slice wa lw wc, .slice ka n kc, .slice va lv vc, .slice ca lc cc, .int .u64 laid]] W (AnsB W (.bool true)))) (MN : Hid (∀ W, Below w.heap.size w W → Calls Try.prog 50 #[.agg #[.int .i64 seg, .slice wa lw wc, .slice ka n kc, .slice va lv vc, .slice ca lc cc, .int .u64 laid]] W (AnsB W (.int .i64 many)))) :
    Calls Try.prog 30 #[.agg #[.int .u8 c.tag, .int .i64 c.most, .int .i64 c.seg, .int .i64 c.least, .int .i64 c.den, .int .i64 c.ll, .int .i64 c.rl, .int .i64 c.rh, .int .i64 c.lh], .agg #[.int .i64 seg, .slice wa lw wc, .slice ka n kc, .slice va lv vc, .slice ca lc cc, .int .u64 laid]] w (AnsB w (.bool false)) := by
  have gs : (seg == c.seg) = true := by simpa using hs
  clear hs
  have IS := Lib.hid (fun W => Is05_ok c (cfMay_head hc) n W)
  rw [hp] at IS
  have gm : decide (many ≤ c.most) = false := by simp; omega
  go_enter Try.func30, Try.ntmps30
  go_upto_region 1 with (fail)
  generalize hwx : (w.alloc (.cells #[.int .u8 c.tag, .int .i64 c.most, .int .i64 c.seg, .int .i64 c.least, .int .i64 c.den, .int .i64 c.ll, .int .i64 c.rl, .int .i64 c.rh, .int .i64 c.lh] 23)).alloc (.cells #[.int .i64 seg, .slice wa lw wc, .slice ka n kc, .slice va lv vc, .slice ca lc cc, .int .u64 laid] 29) = wx
  have c_t0 : wx.cell? ⟨w.heap.size, 0, none⟩ = some (.int .u8 c.tag) := by rw [← hwx]; (first | (with_reducible assumption) | ((simp only [World.frozen?_setCell, World.frozen?_drew, World.frozen?_drewN]) <;> (with_reducible assumption)) | ((repeat (first | (with_reducible assumption) | (with_reducible refine World.cell?_setCell_same _ _ _ (by with_reducible assumption)) | (rw [World.cell?_setCell_other _ _ _ _ (by intro e; simp at e; done)]) | (with_reducible refine cell_setCell_block ?_ ?_) | (rw [World.cell?_drew]) | (rw [World.cell?_drewN]) | (dsimp only; omega))); done) | (first | (with_reducible assumption) | ((try simp (disch := first | omega | (simp only [szW] <;> omega) | fail) only [ceW]) <;> first | (with_reducible assumption) | rfl)))
  have c_t1 : wx.cell? ⟨w.heap.size, 1, none⟩ = some (.int .i64 c.most) := by rw [← hwx]; (first | (with_reducible assumption) | ((simp only [World.frozen?_setCell, World.frozen?_drew, World.frozen?_drewN]) <;> (with_reducible assumption)) | ((repeat (first | (with_reducible assumption) | (with_reducible refine World.cell?_setCell_same _ _ _ (by with_reducible assumption)) | (rw [World.cell?_setCell_other _ _ _ _ (by intro e; simp at e; done)]) | (with_reducible refine cell_setCell_block ?_ ?_) | (rw [World.cell?_drew]) | (rw [World.cell?_drewN]) | (dsimp only; omega))); done) | (first | (with_reducible assumption) | ((try simp (disch := first | omega | (simp only [szW] <;> omega) | fail) only [ceW]) <;> first | (with_reducible assumption) | rfl)))
  have c_t2 : wx.cell? ⟨w.heap.size, 2, none⟩ = some (.int .i64 c.seg) := by rw [← hwx]; (first | (with_reducible assumption) | ((simp only [World.frozen?_setCell, World.frozen?_drew, World.frozen?_drewN]) <;> (with_reducible assumption)) | ((repeat (first | (with_reducible assumption) | (with_reducible refine World.cell?_setCell_same _ _ _ (by with_reducible assumption)) | (rw [World.cell?_setCell_other _ _ _ _ (by intro e; simp at e; done)]) | (with_reducible refine cell_setCell_block ?_ ?_) | (rw [World.cell?_drew]) | (rw [World.cell?_drewN]) | (dsimp only; omega))); done) | (first | (with_reducible assumption) | ((try simp (disch := first | omega | (simp only [szW] <;> omega) | fail) only [ceW]) <;> first | (with_reducible assumption) | rfl)))
  have c_t3 : wx.cell? ⟨w.heap.size, 3, none⟩ = some (.int .i64 c.least) := by rw [← hwx]; (first | (with_reducible assumption) | ((simp only [World.frozen?_setCell, World.frozen?_drew, World.frozen?_drewN]) <;> (with_reducible assumption)) | ((repeat (first | (with_reducible assumption) | (with_reducible refine World.cell?_setCell_same _ _ _ (by with_reducible assumption)) | (rw [World.cell?_setCell_other _ _ _ _ (by intro e; simp at e; done)]) | (with_reducible refine cell_setCell_block ?_ ?_) | (rw [World.cell?_drew]) | (rw [World.cell?_drewN]) | (dsimp only; omega))); done) | (first | (with_reducible assumption) | ((try simp (disch := first | omega | (simp only [szW] <;> omega) | fail) only [ceW]) <;> first | (with_reducible assumption) | rfl)))
  have c_t4 : wx.cell? ⟨w.heap.size, 4, none⟩ = some (.int .i64 c.den) := by rw [← hwx]; (first | (with_reducible assumption) | ((simp only [World.frozen?_setCell, World.frozen?_drew, World.frozen?_drewN]) <;> (with_reducible assumption)) | ((repeat (first | (with_reducible assumption) | (with_reducible refine World.cell?_setCell_same _ _ _ (by with_reducible assumption)) | (rw [World.cell?_setCell_other _ _ _ _ (by intro e; simp at e; done)]) | (with_reducible refine cell_setCell_block ?_ ?_) | (rw [World.cell?_drew]) | (rw [World.cell?_drewN]) | (dsimp only; omega))); done) | (first | (with_reducible assumption) | ((try simp (disch := first | omega | (simp only [szW] <;> omega) | fail) only [ceW]) <;> first | (with_reducible assumption) | rfl)))
  have c_t5 : wx.cell? ⟨w.heap.size, 5, none⟩ = some (.int .i64 c.ll) := by rw [← hwx]; (first | (with_reducible assumption) | ((simp only [World.frozen?_setCell, World.frozen?_drew, World.frozen?_drewN]) <;> (with_reducible assumption)) | ((repeat (first | (with_reducible assumption) | (with_reducible refine World.cell?_setCell_same _ _ _ (by with_reducible assumption)) | (rw [World.cell?_setCell_other _ _ _ _ (by intro e; simp at e; done)]) | (with_reducible refine cell_setCell_block ?_ ?_) | (rw [World.cell?_drew]) | (rw [World.cell?_drewN]) | (dsimp only; omega))); done) | (first | (with_reducible assumption) | ((try simp (disch := first | omega | (simp only [szW] <;> omega) | fail) only [ceW]) <;> first | (with_reducible assumption) | rfl)))
  have c_t6 : wx.cell? ⟨w.heap.size, 6, none⟩ = some (.int .i64 c.rl) := by rw [← hwx]; (first | (with_reducible assumption) | ((simp only [World.frozen?_setCell, World.frozen?_drew, World.frozen?_drewN]) <;> (with_reducible assumption)) | ((repeat (first | (with_reducible assumption) | (with_reducible refine World.cell?_setCell_same _ _ _ (by with_reducible assumption)) | (rw [World.cell?_setCell_other _ _ _ _ (by intro e; simp at e; done)]) | (with_reducible refine cell_setCell_block ?_ ?_) | (rw [World.cell?_drew]) | (rw [World.cell?_drewN]) | (dsimp only; omega))); done) | (first | (with_reducible assumption) | ((try simp (disch := first | omega | (simp only [szW] <;> omega) | fail) only [ceW]) <;> first | (with_reducible assumption) | rfl)))
  have c_t7 : wx.cell? ⟨w.heap.size, 7, none⟩ = some (.int .i64 c.rh) := by rw [← hwx]; (first | (with_reducible assumption) | ((simp only [World.frozen?_setCell, World.frozen?_drew, World.frozen?_drewN]) <;> (with_reducible assumption)) | ((repeat (first | (with_reducible assumption) | (with_reducible refine World.cell?_setCell_same _ _ _ (by with_reducible assumption)) | (rw [World.cell?_setCell_other _ _ _ _ (by intro e; simp at e; done)]) | (with_reducible refine cell_setCell_block ?_ ?_) | (rw [World.cell?_drew]) | (rw [World.cell?_drewN]) | (dsimp only; omega))); done) | (first | (with_reducible assumption) | ((try simp (disch := first | omega | (simp only [szW] <;> omega) | fail) only [ceW]) <;> first | (with_reducible assumption) | rfl)))
  have c_t8 : wx.cell? ⟨w.heap.size, 8, none⟩ = some (.int .i64 c.lh) := by rw [← hwx]; (first | (with_reducible assumption) | ((simp only [World.frozen?_setCell, World.frozen?_drew, World.frozen?_drewN]) <;> (with_reducible assumption)) | ((repeat (first | (with_reducible assumption) | (with_reducible refine World.cell?_setCell_same _ _ _ (by with_reducible assumption)) | (rw [World.cell?_setCell_other _ _ _ _ (by intro e; simp at e; done)]) | (with_reducible refine cell_setCell_block ?_ ?_) | (rw [World.cell?_drew]) | (rw [World.cell?_drewN]) | (dsimp only; omega))); done) | (first | (with_reducible assumption) | ((try simp (disch := first | omega | (simp only [szW] <;> omega) | fail) only [ceW]) <;> first | (with_reducible assumption) | rfl)))
  have z_t : w.heap.size < wx.heap.size := by rw [← hwx]; (first | (with_reducible assumption) | omega | (simp only [szW] <;> omega) | (simp <;> omega))
  have c_s0 : wx.cell? ⟨w.heap.size + 1, 0, none⟩ = some (.int .i64 seg) := by rw [← hwx]; (first | (with_reducible assumption) | ((simp only [World.frozen?_setCell, World.frozen?_drew, World.frozen?_drewN]) <;> (with_reducible assumption)) | ((repeat (first | (with_reducible assumption) | (with_reducible refine World.cell?_setCell_same _ _ _ (by with_reducible assumption)) | (rw [World.cell?_setCell_other _ _ _ _ (by intro e; simp at e; done)]) | (with_reducible refine cell_setCell_block ?_ ?_) | (rw [World.cell?_drew]) | (rw [World.cell?_drewN]) | (dsimp only; omega))); done) | (first | (with_reducible assumption) | ((try simp (disch := first | omega | (simp only [szW] <;> omega) | fail) only [ceW]) <;> first | (with_reducible assumption) | rfl)))
  have c_s1 : wx.cell? ⟨w.heap.size + 1, 1, none⟩ = some (.slice wa lw wc) := by rw [← hwx]; (first | (with_reducible assumption) | ((simp only [World.frozen?_setCell, World.frozen?_drew, World.frozen?_drewN]) <;> (with_reducible assumption)) | ((repeat (first | (with_reducible assumption) | (with_reducible refine World.cell?_setCell_same _ _ _ (by with_reducible assumption)) | (rw [World.cell?_setCell_other _ _ _ _ (by intro e; simp at e; done)]) | (with_reducible refine cell_setCell_block ?_ ?_) | (rw [World.cell?_drew]) | (rw [World.cell?_drewN]) | (dsimp only; omega))); done) | (first | (with_reducible assumption) | ((try simp (disch := first | omega | (simp only [szW] <;> omega) | fail) only [ceW]) <;> first | (with_reducible assumption) | rfl)))
  have c_s2 : wx.cell? ⟨w.heap.size + 1, 2, none⟩ = some (.slice ka n kc) := by rw [← hwx]; (first | (with_reducible assumption) | ((simp only [World.frozen?_setCell, World.frozen?_drew, World.frozen?_drewN]) <;> (with_reducible assumption)) | ((repeat (first | (with_reducible assumption) | (with_reducible refine World.cell?_setCell_same _ _ _ (by with_reducible assumption)) | (rw [World.cell?_setCell_other _ _ _ _ (by intro e; simp at e; done)]) | (with_reducible refine cell_setCell_block ?_ ?_) | (rw [World.cell?_drew]) | (rw [World.cell?_drewN]) | (dsimp only; omega))); done) | (first | (with_reducible assumption) | ((try simp (disch := first | omega | (simp only [szW] <;> omega) | fail) only [ceW]) <;> first | (with_reducible assumption) | rfl)))
  have c_s3 : wx.cell? ⟨w.heap.size + 1, 3, none⟩ = some (.slice va lv vc) := by rw [← hwx]; (first | (with_reducible assumption) | ((simp only [World.frozen?_setCell, World.frozen?_drew, World.frozen?_drewN]) <;> (with_reducible assumption)) | ((repeat (first | (with_reducible assumption) | (with_reducible refine World.cell?_setCell_same _ _ _ (by with_reducible assumption)) | (rw [World.cell?_setCell_other _ _ _ _ (by intro e; simp at e; done)]) | (with_reducible refine cell_setCell_block ?_ ?_) | (rw [World.cell?_drew]) | (rw [World.cell?_drewN]) | (dsimp only; omega))); done) | (first | (with_reducible assumption) | ((try simp (disch := first | omega | (simp only [szW] <;> omega) | fail) only [ceW]) <;> first | (with_reducible assumption) | rfl)))
  have c_s4 : wx.cell? ⟨w.heap.size + 1, 4, none⟩ = some (.slice ca lc cc) := by rw [← hwx]; (first | (with_reducible assumption) | ((simp only [World.frozen?_setCell, World.frozen?_drew, World.frozen?_drewN]) <;> (with_reducible assumption)) | ((repeat (first | (with_reducible assumption) | (with_reducible refine World.cell?_setCell_same _ _ _ (by with_reducible assumption)) | (rw [World.cell?_setCell_other _ _ _ _ (by intro e; simp at e; done)]) | (with_reducible refine cell_setCell_block ?_ ?_) | (rw [World.cell?_drew]) | (rw [World.cell?_drewN]) | (dsimp only; omega))); done) | (first | (with_reducible assumption) | ((try simp (disch := first | omega | (simp only [szW] <;> omega) | fail) only [ceW]) <;> first | (with_reducible assumption) | rfl)))
  have c_s5 : wx.cell? ⟨w.heap.size + 1, 5, none⟩ = some (.int .u64 laid) := by rw [← hwx]; (first | (with_reducible assumption) | ((simp only [World.frozen?_setCell, World.frozen?_drew, World.frozen?_drewN]) <;> (with_reducible assumption)) | ((repeat (first | (with_reducible assumption) | (with_reducible refine World.cell?_setCell_same _ _ _ (by with_reducible assumption)) | (rw [World.cell?_setCell_other _ _ _ _ (by intro e; simp at e; done)]) | (with_reducible refine cell_setCell_block ?_ ?_) | (rw [World.cell?_drew]) | (rw [World.cell?_drewN]) | (dsimp only; omega))); done) | (first | (with_reducible assumption) | ((try simp (disch := first | omega | (simp only [szW] <;> omega) | fail) only [ceW]) <;> first | (with_reducible assumption) | rfl)))
  have z_s : w.heap.size + 1 < wx.heap.size := by rw [← hwx]; (first | (with_reducible assumption) | omega | (simp only [szW] <;> omega) | (simp <;> omega))
  have HB2 : Hid (Below w.heap.size w wx) := by rw [← hwx]; exact Lib.hid (by (repeat (first | with_reducible (first | exact Below.refl _ _ | assumption | exact Hid.out (by assumption) | refine Below.alloc ?_ ?_ _ | refine Below.setCell ?_ ?_ _ | refine below_drewN ?_ _ | refine Below.drew ?_ | refine below_via (by assumption) ?_ ?_) | (first | (with_reducible assumption) | omega | (simp only [szW] <;> omega) | (simp <;> omega)))))
  clear hwx
  have K0 := Lib.hid (fun d os => Calls.regrown_of (w := wx) (d := d) (os := os) (SM.out (grow (redrawn wx d) os) (below_via (below_regrown _ _ _) HB2.out HB2.out.size)))
  have K1 := Lib.hid (fun d os => Calls.regrown_of (w := wx) (d := d) (os := os) (IS.out (grow (redrawn wx d) os)))
  have K2 := Lib.hid (fun d os => Calls.regrown_of (w := wx) (d := d) (os := os) (MN.out (grow (redrawn wx d) os) (below_via (below_regrown _ _ _) HB2.out HB2.out.size)))
  have q0 := cell_regrown c_t0
  have q1 := cell_regrown c_t1
  have q2 := cell_regrown c_t2
  have q3 := cell_regrown c_t3
  have q4 := cell_regrown c_t4
  have q5 := cell_regrown c_t5
  have q6 := cell_regrown c_t6
  have q7 := cell_regrown c_t7
  have q8 := cell_regrown c_t8
  have q9 := cell_regrown c_s0
  have q10 := cell_regrown c_s1
  have q11 := cell_regrown c_s2
  have q12 := cell_regrown c_s3
  have q13 := cell_regrown c_s4
  have q14 := cell_regrown c_s5
  refine wp_region_quiet_below (by kernel_rfl) (by kernel_rfl) ?_
  repeat (go_big_quiet_step (first | with_reducible exact K0.out _ _ | with_reducible exact K1.out _ _ | with_reducible exact K2.out _ _ | exact K0.out _ _ | exact K1.out _ _ | exact K2.out _ _))
  refine wpQuiet_nil ?_
  intro _ hw'
  obtain ⟨⟨dq, osq⟩, hw''⟩ := hw'
  subst hw''
  have hbq := below_regrown wx dq osq
  clear q0 q1 q2 q3 q4 q5 q6 q7 q8 q9 q10 q11 q12 q13 q14 K0 K1 K2
  generalize Sort.grow (redrawn wx dq) osq = wy at *
  have HB3 := Lib.hid (below_via hbq HB2.out HB2.out.size)
  go_wp2
  go_ret
  exact ⟨rfl, HB3.out⟩
set_option maxRecDepth 100000 in
set_option maxHeartbeats 1000000 in
theorem May09_m4 (c : Cfg) (hc : cfMay c = true) (seg : Int) (wa ka va ca : Option Addr) (wc kc vc cc lw n lv lc : Nat) (laid : Int) (w : World) (hs : seg = c.seg) (hp : powB n c.least (taks c c.most) = true) (many : Int) (hm : many ≤ c.most) (z : Bool) (SM : Hid (∀ W, Below w.heap.size w W → Calls Try.prog 48 #[.agg #[.int .i64 seg, .slice wa lw wc, .slice ka n kc, .slice va lv vc, .slice ca lc cc, .int .u64 laid]] W (AnsB W (.bool true)))) (MN : Hid (∀ W, Below w.heap.size w W → Calls Try.prog 50 #[.agg #[.int .i64 seg, .slice wa lw wc, .slice ka n kc, .slice va lv vc, .slice ca lc cc, .int .u64 laid]] W (AnsB W (.int .i64 many)))) (DN : Hid (∀ W, Below w.heap.size w W → Calls Try.prog 51 #[.agg #[.int .u8 c.tag, .int .i64 c.most, .int .i64 c.seg, .int .i64 c.least, .int .i64 c.den, .int .i64 c.ll, .int .i64 c.rl, .int .i64 c.rh, .int .i64 c.lh], .agg #[.int .i64 seg, .slice wa lw wc, .slice ka n kc, .slice va lv vc, .slice ca lc cc, .int .u64 laid]] W (AnsB W (.bool z)))) :
    Calls Try.prog 30 #[.agg #[.int .u8 c.tag, .int .i64 c.most, .int .i64 c.seg, .int .i64 c.least, .int .i64 c.den, .int .i64 c.ll, .int .i64 c.rl, .int .i64 c.rh, .int .i64 c.lh], .agg #[.int .i64 seg, .slice wa lw wc, .slice ka n kc, .slice va lv vc, .slice ca lc cc, .int .u64 laid]] w (AnsB w (.bool z)) := by
  have gs : (seg == c.seg) = true := by simpa using hs
  clear hs
  have IS := Lib.hid (fun W => Is05_ok c (cfMay_head hc) n W)
  rw [hp] at IS
  have gm : decide (many ≤ c.most) = true := by simp; omega
  go_enter Try.func30, Try.ntmps30
  go_upto_region 1 with (fail)
  generalize hwx : (w.alloc (.cells #[.int .u8 c.tag, .int .i64 c.most, .int .i64 c.seg, .int .i64 c.least, .int .i64 c.den, .int .i64 c.ll, .int .i64 c.rl, .int .i64 c.rh, .int .i64 c.lh] 23)).alloc (.cells #[.int .i64 seg, .slice wa lw wc, .slice ka n kc, .slice va lv vc, .slice ca lc cc, .int .u64 laid] 29) = wx
  have c_t0 : wx.cell? ⟨w.heap.size, 0, none⟩ = some (.int .u8 c.tag) := by rw [← hwx]; (first | (with_reducible assumption) | ((simp only [World.frozen?_setCell, World.frozen?_drew, World.frozen?_drewN]) <;> (with_reducible assumption)) | ((repeat (first | (with_reducible assumption) | (with_reducible refine World.cell?_setCell_same _ _ _ (by with_reducible assumption)) | (rw [World.cell?_setCell_other _ _ _ _ (by intro e; simp at e; done)]) | (with_reducible refine cell_setCell_block ?_ ?_) | (rw [World.cell?_drew]) | (rw [World.cell?_drewN]) | (dsimp only; omega))); done) | (first | (with_reducible assumption) | ((try simp (disch := first | omega | (simp only [szW] <;> omega) | fail) only [ceW]) <;> first | (with_reducible assumption) | rfl)))
  have c_t1 : wx.cell? ⟨w.heap.size, 1, none⟩ = some (.int .i64 c.most) := by rw [← hwx]; (first | (with_reducible assumption) | ((simp only [World.frozen?_setCell, World.frozen?_drew, World.frozen?_drewN]) <;> (with_reducible assumption)) | ((repeat (first | (with_reducible assumption) | (with_reducible refine World.cell?_setCell_same _ _ _ (by with_reducible assumption)) | (rw [World.cell?_setCell_other _ _ _ _ (by intro e; simp at e; done)]) | (with_reducible refine cell_setCell_block ?_ ?_) | (rw [World.cell?_drew]) | (rw [World.cell?_drewN]) | (dsimp only; omega))); done) | (first | (with_reducible assumption) | ((try simp (disch := first | omega | (simp only [szW] <;> omega) | fail) only [ceW]) <;> first | (with_reducible assumption) | rfl)))
  have c_t2 : wx.cell? ⟨w.heap.size, 2, none⟩ = some (.int .i64 c.seg) := by rw [← hwx]; (first | (with_reducible assumption) | ((simp only [World.frozen?_setCell, World.frozen?_drew, World.frozen?_drewN]) <;> (with_reducible assumption)) | ((repeat (first | (with_reducible assumption) | (with_reducible refine World.cell?_setCell_same _ _ _ (by with_reducible assumption)) | (rw [World.cell?_setCell_other _ _ _ _ (by intro e; simp at e; done)]) | (with_reducible refine cell_setCell_block ?_ ?_) | (rw [World.cell?_drew]) | (rw [World.cell?_drewN]) | (dsimp only; omega))); done) | (first | (with_reducible assumption) | ((try simp (disch := first | omega | (simp only [szW] <;> omega) | fail) only [ceW]) <;> first | (with_reducible assumption) | rfl)))
  have c_t3 : wx.cell? ⟨w.heap.size, 3, none⟩ = some (.int .i64 c.least) := by rw [← hwx]; (first | (with_reducible assumption) | ((simp only [World.frozen?_setCell, World.frozen?_drew, World.frozen?_drewN]) <;> (with_reducible assumption)) | ((repeat (first | (with_reducible assumption) | (with_reducible refine World.cell?_setCell_same _ _ _ (by with_reducible assumption)) | (rw [World.cell?_setCell_other _ _ _ _ (by intro e; simp at e; done)]) | (with_reducible refine cell_setCell_block ?_ ?_) | (rw [World.cell?_drew]) | (rw [World.cell?_drewN]) | (dsimp only; omega))); done) | (first | (with_reducible assumption) | ((try simp (disch := first | omega | (simp only [szW] <;> omega) | fail) only [ceW]) <;> first | (with_reducible assumption) | rfl)))
  have c_t4 : wx.cell? ⟨w.heap.size, 4, none⟩ = some (.int .i64 c.den) := by rw [← hwx]; (first | (with_reducible assumption) | ((simp only [World.frozen?_setCell, World.frozen?_drew, World.frozen?_drewN]) <;> (with_reducible assumption)) | ((repeat (first | (with_reducible assumption) | (with_reducible refine World.cell?_setCell_same _ _ _ (by with_reducible assumption)) | (rw [World.cell?_setCell_other _ _ _ _ (by intro e; simp at e; done)]) | (with_reducible refine cell_setCell_block ?_ ?_) | (rw [World.cell?_drew]) | (rw [World.cell?_drewN]) | (dsimp only; omega))); done) | (first | (with_reducible assumption) | ((try simp (disch := first | omega | (simp only [szW] <;> omega) | fail) only [ceW]) <;> first | (with_reducible assumption) | rfl)))
  have c_t5 : wx.cell? ⟨w.heap.size, 5, none⟩ = some (.int .i64 c.ll) := by rw [← hwx]; (first | (with_reducible assumption) | ((simp only [World.frozen?_setCell, World.frozen?_drew, World.frozen?_drewN]) <;> (with_reducible assumption)) | ((repeat (first | (with_reducible assumption) | (with_reducible refine World.cell?_setCell_same _ _ _ (by with_reducible assumption)) | (rw [World.cell?_setCell_other _ _ _ _ (by intro e; simp at e; done)]) | (with_reducible refine cell_setCell_block ?_ ?_) | (rw [World.cell?_drew]) | (rw [World.cell?_drewN]) | (dsimp only; omega))); done) | (first | (with_reducible assumption) | ((try simp (disch := first | omega | (simp only [szW] <;> omega) | fail) only [ceW]) <;> first | (with_reducible assumption) | rfl)))
  have c_t6 : wx.cell? ⟨w.heap.size, 6, none⟩ = some (.int .i64 c.rl) := by rw [← hwx]; (first | (with_reducible assumption) | ((simp only [World.frozen?_setCell, World.frozen?_drew, World.frozen?_drewN]) <;> (with_reducible assumption)) | ((repeat (first | (with_reducible assumption) | (with_reducible refine World.cell?_setCell_same _ _ _ (by with_reducible assumption)) | (rw [World.cell?_setCell_other _ _ _ _ (by intro e; simp at e; done)]) | (with_reducible refine cell_setCell_block ?_ ?_) | (rw [World.cell?_drew]) | (rw [World.cell?_drewN]) | (dsimp only; omega))); done) | (first | (with_reducible assumption) | ((try simp (disch := first | omega | (simp only [szW] <;> omega) | fail) only [ceW]) <;> first | (with_reducible assumption) | rfl)))
  have c_t7 : wx.cell? ⟨w.heap.size, 7, none⟩ = some (.int .i64 c.rh) := by rw [← hwx]; (first | (with_reducible assumption) | ((simp only [World.frozen?_setCell, World.frozen?_drew, World.frozen?_drewN]) <;> (with_reducible assumption)) | ((repeat (first | (with_reducible assumption) | (with_reducible refine World.cell?_setCell_same _ _ _ (by with_reducible assumption)) | (rw [World.cell?_setCell_other _ _ _ _ (by intro e; simp at e; done)]) | (with_reducible refine cell_setCell_block ?_ ?_) | (rw [World.cell?_drew]) | (rw [World.cell?_drewN]) | (dsimp only; omega))); done) | (first | (with_reducible assumption) | ((try simp (disch := first | omega | (simp only [szW] <;> omega) | fail) only [ceW]) <;> first | (with_reducible assumption) | rfl)))
  have c_t8 : wx.cell? ⟨w.heap.size, 8, none⟩ = some (.int .i64 c.lh) := by rw [← hwx]; (first | (with_reducible assumption) | ((simp only [World.frozen?_setCell, World.frozen?_drew, World.frozen?_drewN]) <;> (with_reducible assumption)) | ((repeat (first | (with_reducible assumption) | (with_reducible refine World.cell?_setCell_same _ _ _ (by with_reducible assumption)) | (rw [World.cell?_setCell_other _ _ _ _ (by intro e; simp at e; done)]) | (with_reducible refine cell_setCell_block ?_ ?_) | (rw [World.cell?_drew]) | (rw [World.cell?_drewN]) | (dsimp only; omega))); done) | (first | (with_reducible assumption) | ((try simp (disch := first | omega | (simp only [szW] <;> omega) | fail) only [ceW]) <;> first | (with_reducible assumption) | rfl)))
  have z_t : w.heap.size < wx.heap.size := by rw [← hwx]; (first | (with_reducible assumption) | omega | (simp only [szW] <;> omega) | (simp <;> omega))
  have c_s0 : wx.cell? ⟨w.heap.size + 1, 0, none⟩ = some (.int .i64 seg) := by rw [← hwx]; (first | (with_reducible assumption) | ((simp only [World.frozen?_setCell, World.frozen?_drew, World.frozen?_drewN]) <;> (with_reducible assumption)) | ((repeat (first | (with_reducible assumption) | (with_reducible refine World.cell?_setCell_same _ _ _ (by with_reducible assumption)) | (rw [World.cell?_setCell_other _ _ _ _ (by intro e; simp at e; done)]) | (with_reducible refine cell_setCell_block ?_ ?_) | (rw [World.cell?_drew]) | (rw [World.cell?_drewN]) | (dsimp only; omega))); done) | (first | (with_reducible assumption) | ((try simp (disch := first | omega | (simp only [szW] <;> omega) | fail) only [ceW]) <;> first | (with_reducible assumption) | rfl)))
  have c_s1 : wx.cell? ⟨w.heap.size + 1, 1, none⟩ = some (.slice wa lw wc) := by rw [← hwx]; (first | (with_reducible assumption) | ((simp only [World.frozen?_setCell, World.frozen?_drew, World.frozen?_drewN]) <;> (with_reducible assumption)) | ((repeat (first | (with_reducible assumption) | (with_reducible refine World.cell?_setCell_same _ _ _ (by with_reducible assumption)) | (rw [World.cell?_setCell_other _ _ _ _ (by intro e; simp at e; done)]) | (with_reducible refine cell_setCell_block ?_ ?_) | (rw [World.cell?_drew]) | (rw [World.cell?_drewN]) | (dsimp only; omega))); done) | (first | (with_reducible assumption) | ((try simp (disch := first | omega | (simp only [szW] <;> omega) | fail) only [ceW]) <;> first | (with_reducible assumption) | rfl)))
  have c_s2 : wx.cell? ⟨w.heap.size + 1, 2, none⟩ = some (.slice ka n kc) := by rw [← hwx]; (first | (with_reducible assumption) | ((simp only [World.frozen?_setCell, World.frozen?_drew, World.frozen?_drewN]) <;> (with_reducible assumption)) | ((repeat (first | (with_reducible assumption) | (with_reducible refine World.cell?_setCell_same _ _ _ (by with_reducible assumption)) | (rw [World.cell?_setCell_other _ _ _ _ (by intro e; simp at e; done)]) | (with_reducible refine cell_setCell_block ?_ ?_) | (rw [World.cell?_drew]) | (rw [World.cell?_drewN]) | (dsimp only; omega))); done) | (first | (with_reducible assumption) | ((try simp (disch := first | omega | (simp only [szW] <;> omega) | fail) only [ceW]) <;> first | (with_reducible assumption) | rfl)))
  have c_s3 : wx.cell? ⟨w.heap.size + 1, 3, none⟩ = some (.slice va lv vc) := by rw [← hwx]; (first | (with_reducible assumption) | ((simp only [World.frozen?_setCell, World.frozen?_drew, World.frozen?_drewN]) <;> (with_reducible assumption)) | ((repeat (first | (with_reducible assumption) | (with_reducible refine World.cell?_setCell_same _ _ _ (by with_reducible assumption)) | (rw [World.cell?_setCell_other _ _ _ _ (by intro e; simp at e; done)]) | (with_reducible refine cell_setCell_block ?_ ?_) | (rw [World.cell?_drew]) | (rw [World.cell?_drewN]) | (dsimp only; omega))); done) | (first | (with_reducible assumption) | ((try simp (disch := first | omega | (simp only [szW] <;> omega) | fail) only [ceW]) <;> first | (with_reducible assumption) | rfl)))
  have c_s4 : wx.cell? ⟨w.heap.size + 1, 4, none⟩ = some (.slice ca lc cc) := by rw [← hwx]; (first | (with_reducible assumption) | ((simp only [World.frozen?_setCell, World.frozen?_drew, World.frozen?_drewN]) <;> (with_reducible assumption)) | ((repeat (first | (with_reducible assumption) | (with_reducible refine World.cell?_setCell_same _ _ _ (by with_reducible assumption)) | (rw [World.cell?_setCell_other _ _ _ _ (by intro e; simp at e; done)]) | (with_reducible refine cell_setCell_block ?_ ?_) | (rw [World.cell?_drew]) | (rw [World.cell?_drewN]) | (dsimp only; omega))); done) | (first | (with_reducible assumption) | ((try simp (disch := first | omega | (simp only [szW] <;> omega) | fail) only [ceW]) <;> first | (with_reducible assumption) | rfl)))
  have c_s5 : wx.cell? ⟨w.heap.size + 1, 5, none⟩ = some (.int .u64 laid) := by rw [← hwx]; (first | (with_reducible assumption) | ((simp only [World.frozen?_setCell, World.frozen?_drew, World.frozen?_drewN]) <;> (with_reducible assumption)) | ((repeat (first | (with_reducible assumption) | (with_reducible refine World.cell?_setCell_same _ _ _ (by with_reducible assumption)) | (rw [World.cell?_setCell_other _ _ _ _ (by intro e; simp at e; done)]) | (with_reducible refine cell_setCell_block ?_ ?_) | (rw [World.cell?_drew]) | (rw [World.cell?_drewN]) | (dsimp only; omega))); done) | (first | (with_reducible assumption) | ((try simp (disch := first | omega | (simp only [szW] <;> omega) | fail) only [ceW]) <;> first | (with_reducible assumption) | rfl)))
  have z_s : w.heap.size + 1 < wx.heap.size := by rw [← hwx]; (first | (with_reducible assumption) | omega | (simp only [szW] <;> omega) | (simp <;> omega))
  have HB2 : Hid (Below w.heap.size w wx) := by rw [← hwx]; exact Lib.hid (by (repeat (first | with_reducible (first | exact Below.refl _ _ | assumption | exact Hid.out (by assumption) | refine Below.alloc ?_ ?_ _ | refine Below.setCell ?_ ?_ _ | refine below_drewN ?_ _ | refine Below.drew ?_ | refine below_via (by assumption) ?_ ?_) | (first | (with_reducible assumption) | omega | (simp only [szW] <;> omega) | (simp <;> omega)))))
  clear hwx
  have K0 := Lib.hid (fun d os => Calls.regrown_of (w := wx) (d := d) (os := os) (SM.out (grow (redrawn wx d) os) (below_via (below_regrown _ _ _) HB2.out HB2.out.size)))
  have K1 := Lib.hid (fun d os => Calls.regrown_of (w := wx) (d := d) (os := os) (IS.out (grow (redrawn wx d) os)))
  have K2 := Lib.hid (fun d os => Calls.regrown_of (w := wx) (d := d) (os := os) (MN.out (grow (redrawn wx d) os) (below_via (below_regrown _ _ _) HB2.out HB2.out.size)))
  have K3 := Lib.hid (fun d os => Calls.regrown_of (w := wx) (d := d) (os := os) (DN.out (grow (redrawn wx d) os) (below_via (below_regrown _ _ _) HB2.out HB2.out.size)))
  have q0 := cell_regrown c_t0
  have q1 := cell_regrown c_t1
  have q2 := cell_regrown c_t2
  have q3 := cell_regrown c_t3
  have q4 := cell_regrown c_t4
  have q5 := cell_regrown c_t5
  have q6 := cell_regrown c_t6
  have q7 := cell_regrown c_t7
  have q8 := cell_regrown c_t8
  have q9 := cell_regrown c_s0
  have q10 := cell_regrown c_s1
  have q11 := cell_regrown c_s2
  have q12 := cell_regrown c_s3
  have q13 := cell_regrown c_s4
  have q14 := cell_regrown c_s5
  refine wp_region_quiet_below (by kernel_rfl) (by kernel_rfl) ?_
  repeat (go_big_quiet_step (first | with_reducible exact K0.out _ _ | with_reducible exact K1.out _ _ | with_reducible exact K2.out _ _ | with_reducible exact K3.out _ _ | exact K0.out _ _ | exact K1.out _ _ | exact K2.out _ _ | exact K3.out _ _))
  refine wpQuiet_nil ?_
  intro _ hw'
  obtain ⟨⟨dq, osq⟩, hw''⟩ := hw'
  subst hw''
  have hbq := below_regrown wx dq osq
  clear q0 q1 q2 q3 q4 q5 q6 q7 q8 q9 q10 q11 q12 q13 q14 K0 K1 K2 K3
  generalize Sort.grow (redrawn wx dq) osq = wy at *
  have HB3 := Lib.hid (below_via hbq HB2.out HB2.out.size)
  go_wp2
  go_ret
  exact ⟨rfl, HB3.out⟩
end

section
open Go.RowKit

theorem Among09_ok (s : SlC) (sa : SlA) (S lo hi : Nat) (hseg : s.seg = S) (hS : 4 ≤ S) (hS2 : S ≤ 64) (A B : Int) (hA : A = ((lo * S : Nat) : Int)) (hB : B = ((hi * S : Nat) : Int)) (h1 : lo ≤ hi) (h2 : hi ≤ s.cs.length) (hlc : s.cs.length ≤ 65536) (hcs : CntB s.cs S) (w : World) (hin : SlIn w s sa) :
    Calls Try.prog 75 #[slV s sa, .int .i64 A, .int .i64 B] w (AnsB w (.int .i64 (sumC s.cs lo hi))) :=
  Among09_core w s.seg sa.wa sa.ka sa.va sa.ca sa.wc sa.kc sa.vc sa.cc s.ws.length s.ks.length s.vs.length s.cs.length s.laid s.cs A B S lo hi hseg hS hS2 hA hB h1 h2 hlc rfl hcs hin.n
theorem GapN.nums {c : Cfg} {s : SlC} {a H : Nat} (k : GapN c s a H) : 4 ≤ 2 ^ a ∧ 2 ^ a ≤ 64 ∧ 1 ≤ s.cs.length ∧ s.cs.length ≤ 65536 ∧ s.ks.length ≤ 65536 := by
  have ha4 : 2 ^ 2 ≤ 2 ^ a := Nat.pow_le_pow_right (by omega) k.cap.a2
  have ha6 : 2 ^ a ≤ 2 ^ 6 := Nat.pow_le_pow_right (by omega) k.cap.a6
  have hH0 := Nat.two_pow_pos H
  have hnc := k.nc
  have := k.cap.big
  have h9 : 1 * 2 ^ H ≤ 2 ^ a * 2 ^ H := Nat.mul_le_mul_right _ (by omega)
  have := k.nk
  omega
theorem Many09_ok {c : Cfg} {s : SlC} {a H : Nat} (k : GapN c s a H) (sa : SlA) (w : World) (hin : SlIn w s sa) :
    Calls Try.prog 50 #[slV s sa] w (AnsB w (.int .i64 (sumC s.cs 0 s.cs.length))) := by
  obtain ⟨n1, n2, n3, n4, n5⟩ := k.nums
  exact Many09_core w s.seg _ _ _ _ _ _ _ _ _ _ _ _ _ _ (Lib.hid fun W hb => Among09_ok s sa (2 ^ a) 0 s.cs.length k.seg n1 n2 0 s.ks.length (by simp) (by rw [k.nk, k.nc, Nat.mul_comm]) (by omega) (by omega) n4 k.cnt W (hin.below hb))
theorem dense09_ok {c : Cfg} {s : SlC} {a H : Nat} (k : GapN c s a H) (sa : SlA) (w : World) (hin : SlIn w s sa) :
    Calls Try.prog 51 #[.agg #[.int .u8 c.tag, .int .i64 c.most, .int .i64 c.seg, .int .i64 c.least, .int .i64 c.den, .int .i64 c.ll, .int .i64 c.rl, .int .i64 c.rh, .int .i64 c.lh], slV s sa] w (AnsB w (.bool (denB c s H))) := by
  obtain ⟨n1, n2, n3, n4, n5⟩ := k.nums
  refine dense_core c s s.seg _ _ _ _ _ _ _ _ _ _ _ _ _ a H k.cap k.nc rfl k.cnt _ rfl w (Lib.hid fun h i hh hi W hb => ?_)
  have hi2 : (i + 1) * 2 ^ h ≤ 2 ^ H := by
    have : (i + 1) * 2 ^ h ≤ 2 ^ (H - h) * 2 ^ h := Nat.mul_le_mul_right _ hi
    rwa [← Nat.pow_add, Nat.sub_add_cancel hh] at this
  have hp0 := Nat.two_pow_pos h
  have hnc := k.nc
  have hlt : i * 2 ^ h < (i + 1) * 2 ^ h := by rw [Nat.succ_mul]; omega
  refine Among09_ok s sa (2 ^ a) (i * 2 ^ h) ((i + 1) * 2 ^ h) k.seg n1 n2 _ _ ?_ ?_ (by omega) (by omega) n4 k.cnt W (hin.below hb)
  · rw [Nat.mul_comm (2 ^ a), Nat.mul_assoc]
  · rw [Nat.succ_mul i (2 ^ h), Nat.add_mul, Nat.mul_comm (2 ^ a) (2 ^ h), Nat.mul_assoc]
    push_cast
    rfl
theorem May09_ok (c : Cfg) (hc : cfMay c = true) (s : SlC) (sa : SlA) (hl : s.ws.length ≤ 1000000000000) (hl2 : s.ks.length ≤ 1000000000000) (w : World) (hin : SlIn w s sa) :
    Calls Try.prog 30 #[.agg #[.int .u8 c.tag, .int .i64 c.most, .int .i64 c.seg, .int .i64 c.least, .int .i64 c.den, .int .i64 c.ll, .int .i64 c.rl, .int .i64 c.rh, .int .i64 c.lh], slV s sa] w (AnsB w (.bool (gapMay c s))) := by
  have SM : Hid (∀ W, Below w.heap.size w W → Calls Try.prog 48 #[slV s sa] W (AnsB W (.bool (slMay s)))) := Lib.hid fun W hb => May04_ok s sa hl hl2 W (hin.below hb)
  cases hm : slMay s with
  | false =>
    rw [show gapMay c s = false by simp [gapMay, gapHead, hm]]
    rw [hm] at SM
    exact May09_m0 c hc _ _ _ _ _ _ _ _ _ _ _ _ _ _ w SM
  | true =>
    rw [hm] at SM
    by_cases hs : s.seg = c.seg
    · cases hp : powB s.ks.length c.least (taks c c.most) with
      | false =>
        rw [show gapMay c s = false by simp [gapMay, gapHead, hp]]
        exact May09_m2 c hc _ _ _ _ _ _ _ _ _ _ _ _ _ _ w hs hp SM
      | true =>
        obtain ⟨a, H, k⟩ := gapN_of hc hp hm hs
        have MN : Hid (∀ W, Below w.heap.size w W → Calls Try.prog 50 #[slV s sa] W (AnsB W (.int .i64 (sumC s.cs 0 s.cs.length)))) := Lib.hid fun W hb => Many09_ok k sa W (hin.below hb)
        by_cases hmost : sumC s.cs 0 s.cs.length ≤ c.most
        · have hh : gapHead c s = true := by
            simp only [gapHead, Bool.and_eq_true, decide_eq_true_eq]
            exact ⟨⟨⟨hm, hs⟩, hp⟩, hmost⟩
          rw [show gapMay c s = denB c s H by rw [gapMay, hh, Bool.true_and, k.cap.hgt]]
          exact May09_m4 c hc _ _ _ _ _ _ _ _ _ _ _ _ _ _ w hs hp _ hmost _ SM MN (Lib.hid fun W hb => dense09_ok k sa W (hin.below hb))
        · rw [show gapMay c s = false by simp [gapMay, gapHead, hmost]]
          exact May09_m3 c hc _ _ _ _ _ _ _ _ _ _ _ _ _ _ w hs hp _ (by omega) SM MN
    · rw [show gapMay c s = false by simp [gapMay, gapHead, hs]]
      exact May09_m1 c hc _ _ _ _ _ _ _ _ _ _ _ _ _ _ w hs SM
set_option maxRecDepth 100000 in
theorem Check09_core (c : Cfg) (seg : Int) (wa ka va ca : Option Addr) (wc kc vc cc lw n lv lc : Nat) (laid : Int) (m g : Bool) (w : World)
    (MC : Hid (∀ W, Below w.heap.size w W → Calls Try.prog 29 #[.agg #[.int .u8 c.tag, .int .i64 c.most, .int .i64 c.seg, .int .i64 c.least, .int .i64 c.den, .int .i64 c.ll, .int .i64 c.rl, .int .i64 c.rh, .int .i64 c.lh]] W (AnsB W (.bool m))))
    (MG : m = true → Hid (∀ W, Below w.heap.size w W → Calls Try.prog 30 #[.agg #[.int .u8 c.tag, .int .i64 c.most, .int .i64 c.seg, .int .i64 c.least, .int .i64 c.den, .int .i64 c.ll, .int .i64 c.rl, .int .i64 c.rh, .int .i64 c.lh], .agg #[.int .i64 seg, .slice wa lw wc, .slice ka n kc, .slice va lv vc, .slice ca lc cc, .int .u64 laid]] W (AnsB W (.bool g)))) :
    Calls Try.prog 14 #[.agg #[.int .u8 c.tag, .int .i64 c.most, .int .i64 c.seg, .int .i64 c.least, .int .i64 c.den, .int .i64 c.ll, .int .i64 c.rl, .int .i64 c.rh, .int .i64 c.lh], .agg #[.int .i64 seg, .slice wa lw wc, .slice ka n kc, .slice va lv vc, .slice ca lc cc, .int .u64 laid]] w (AnsB w (.int .i64 (if m = true then (if g = true then 0 else 8) else 50))) := by
  cases m with
  | false =>
    rw [if_neg (by decide)]
    clear MG
    go_enter Try.func14, Try.ntmps14
    go_wp2_with fail
    refine (MC.out _ (by (repeat (first | with_reducible (first | exact Below.refl _ _ | assumption | exact Hid.out (by assumption) | refine Below.alloc ?_ ?_ _ | refine Below.setCell ?_ ?_ _ | refine below_drewN ?_ _ | refine Below.drew ?_ | refine below_via (by assumption) ?_ ?_) | (first | (with_reducible assumption) | omega | (simp only [szW] <;> omega) | (simp <;> omega)))))).mono ?_
    rintro e w1 ⟨rfl, hb1⟩
    have hz_w1 := hb1.size
    try simp only [World.size_alloc, World.size_setCell] at hz_w1
    have all_c : w1.cell? ⟨w.heap.size, 0, none⟩ = some (.int .u8 c.tag) ∧ w1.cell? ⟨w.heap.size, 1, none⟩ = some (.int .i64 c.most) ∧ w1.cell? ⟨w.heap.size, 2, none⟩ = some (.int .i64 c.seg) ∧ w1.cell? ⟨w.heap.size, 3, none⟩ = some (.int .i64 c.least) ∧ w1.cell? ⟨w.heap.size, 4, none⟩ = some (.int .i64 c.den) ∧ w1.cell? ⟨w.heap.size, 5, none⟩ = some (.int .i64 c.ll) ∧ w1.cell? ⟨w.heap.size, 6, none⟩ = some (.int .i64 c.rl) ∧ w1.cell? ⟨w.heap.size, 7, none⟩ = some (.int .i64 c.rh) ∧ w1.cell? ⟨w.heap.size, 8, none⟩ = some (.int .i64 c.lh) ∧ w1.cell? ⟨w.heap.size + 1, 0, none⟩ = some (.int .i64 seg) ∧ w1.cell? ⟨w.heap.size + 1, 1, none⟩ = some (.slice wa lw wc) ∧ w1.cell? ⟨w.heap.size + 1, 2, none⟩ = some (.slice ka n kc) ∧ w1.cell? ⟨w.heap.size + 1, 3, none⟩ = some (.slice va lv vc) ∧ w1.cell? ⟨w.heap.size + 1, 4, none⟩ = some (.slice ca lc cc) ∧ w1.cell? ⟨w.heap.size + 1, 5, none⟩ = some (.int .u64 laid) := by refine ⟨?_, ?_, ?_, ?_, ?_, ?_, ?_, ?_, ?_, ?_, ?_, ?_, ?_, ?_, ?_⟩ <;> (refine (hb1.cell ?_).trans ?_ <;> first | (first | (with_reducible assumption) | omega | (simp only [szW] <;> omega) | (simp <;> omega)) | (first | (with_reducible assumption) | ((try simp (disch := first | omega | (simp only [szW] <;> omega) | fail) only [ceW]) <;> first | (with_reducible assumption) | rfl)))
    have all_z : w.heap.size < w1.heap.size ∧ w.heap.size + 1 < w1.heap.size := by refine ⟨?_, ?_⟩ <;> (omega)
    obtain ⟨c_t0, c_t1, c_t2, c_t3, c_t4, c_t5, c_t6, c_t7, c_t8, c_s0, c_s1, c_s2, c_s3, c_s4, c_s5⟩ := all_c
    try clear all_c
    obtain ⟨z_t, z_s⟩ := all_z
    try clear all_z
    have hB1 : Below w.heap.size w w1 := by (repeat (first | with_reducible (first | exact Below.refl _ _ | assumption | exact Hid.out (by assumption) | refine Below.alloc ?_ ?_ _ | refine Below.setCell ?_ ?_ _ | refine below_drewN ?_ _ | refine Below.drew ?_ | refine below_via (by assumption) ?_ ?_) | (first | (with_reducible assumption) | omega | (simp only [szW] <;> omega) | (simp <;> omega))))
    go_wp2
    go_ret
    exact ⟨rfl, hB1⟩
  | true =>
    rw [if_pos rfl]
    replace MG := MG rfl
    obtain ⟨z, hz⟩ : ∃ z : Int, (if g = true then 0 else 8) = z := ⟨_, rfl⟩
    rw [hz]
    go_enter Try.func14, Try.ntmps14
    go_wp2_with fail
    refine (MC.out _ (by (repeat (first | with_reducible (first | exact Below.refl _ _ | assumption | exact Hid.out (by assumption) | refine Below.alloc ?_ ?_ _ | refine Below.setCell ?_ ?_ _ | refine below_drewN ?_ _ | refine Below.drew ?_ | refine below_via (by assumption) ?_ ?_) | (first | (with_reducible assumption) | omega | (simp only [szW] <;> omega) | (simp <;> omega)))))).mono ?_
    rintro e w1 ⟨rfl, hb1⟩
    have hz_w1 := hb1.size
    try simp only [World.size_alloc, World.size_setCell] at hz_w1
    have all_c : w1.cell? ⟨w.heap.size, 0, none⟩ = some (.int .u8 c.tag) ∧ w1.cell? ⟨w.heap.size, 1, none⟩ = some (.int .i64 c.most) ∧ w1.cell? ⟨w.heap.size, 2, none⟩ = some (.int .i64 c.seg) ∧ w1.cell? ⟨w.heap.size, 3, none⟩ = some (.int .i64 c.least) ∧ w1.cell? ⟨w.heap.size, 4, none⟩ = some (.int .i64 c.den) ∧ w1.cell? ⟨w.heap.size, 5, none⟩ = some (.int .i64 c.ll) ∧ w1.cell? ⟨w.heap.size, 6, none⟩ = some (.int .i64 c.rl) ∧ w1.cell? ⟨w.heap.size, 7, none⟩ = some (.int .i64 c.rh) ∧ w1.cell? ⟨w.heap.size, 8, none⟩ = some (.int .i64 c.lh) ∧ w1.cell? ⟨w.heap.size + 1, 0, none⟩ = some (.int .i64 seg) ∧ w1.cell? ⟨w.heap.size + 1, 1, none⟩ = some (.slice wa lw wc) ∧ w1.cell? ⟨w.heap.size + 1, 2, none⟩ = some (.slice ka n kc) ∧ w1.cell? ⟨w.heap.size + 1, 3, none⟩ = some (.slice va lv vc) ∧ w1.cell? ⟨w.heap.size + 1, 4, none⟩ = some (.slice ca lc cc) ∧ w1.cell? ⟨w.heap.size + 1, 5, none⟩ = some (.int .u64 laid) := by refine ⟨?_, ?_, ?_, ?_, ?_, ?_, ?_, ?_, ?_, ?_, ?_, ?_, ?_, ?_, ?_⟩ <;> (refine (hb1.cell ?_).trans ?_ <;> first | (first | (with_reducible assumption) | omega | (simp only [szW] <;> omega) | (simp <;> omega)) | (first | (with_reducible assumption) | ((try simp (disch := first | omega | (simp only [szW] <;> omega) | fail) only [ceW]) <;> first | (with_reducible assumption) | rfl)))
    have all_z : w.heap.size < w1.heap.size ∧ w.heap.size + 1 < w1.heap.size := by refine ⟨?_, ?_⟩ <;> (omega)
    obtain ⟨c_t0, c_t1, c_t2, c_t3, c_t4, c_t5, c_t6, c_t7, c_t8, c_s0, c_s1, c_s2, c_s3, c_s4, c_s5⟩ := all_c
    try clear all_c
    obtain ⟨z_t, z_s⟩ := all_z
    try clear all_z
    have hB1 : Below w.heap.size w w1 := by (repeat (first | with_reducible (first | exact Below.refl _ _ | assumption | exact Hid.out (by assumption) | refine Below.alloc ?_ ?_ _ | refine Below.setCell ?_ ?_ _ | refine below_drewN ?_ _ | refine Below.drew ?_ | refine below_via (by assumption) ?_ ?_) | (first | (with_reducible assumption) | omega | (simp only [szW] <;> omega) | (simp <;> omega))))
    have HB1 := Lib.hid hB1
    clear hb1 hB1
    go_wp2_with fail
    refine (MG.out _ HB1.out).mono ?_
    rintro e w2 ⟨rfl, hb2⟩
    have hz_w2 := hb2.size
    try simp only [World.size_alloc, World.size_setCell] at hz_w2
    have all_c : w2.cell? ⟨w.heap.size, 0, none⟩ = some (.int .u8 c.tag) ∧ w2.cell? ⟨w.heap.size, 1, none⟩ = some (.int .i64 c.most) ∧ w2.cell? ⟨w.heap.size, 2, none⟩ = some (.int .i64 c.seg) ∧ w2.cell? ⟨w.heap.size, 3, none⟩ = some (.int .i64 c.least) ∧ w2.cell? ⟨w.heap.size, 4, none⟩ = some (.int .i64 c.den) ∧ w2.cell? ⟨w.heap.size, 5, none⟩ = some (.int .i64 c.ll) ∧ w2.cell? ⟨w.heap.size, 6, none⟩ = some (.int .i64 c.rl) ∧ w2.cell? ⟨w.heap.size, 7, none⟩ = some (.int .i64 c.rh) ∧ w2.cell? ⟨w.heap.size, 8, none⟩ = some (.int .i64 c.lh) ∧ w2.cell? ⟨w.heap.size + 1, 0, none⟩ = some (.int .i64 seg) ∧ w2.cell? ⟨w.heap.size + 1, 1, none⟩ = some (.slice wa lw wc) ∧ w2.cell? ⟨w.heap.size + 1, 2, none⟩ = some (.slice ka n kc) ∧ w2.cell? ⟨w.heap.size + 1, 3, none⟩ = some (.slice va lv vc) ∧ w2.cell? ⟨w.heap.size + 1, 4, none⟩ = some (.slice ca lc cc) ∧ w2.cell? ⟨w.heap.size + 1, 5, none⟩ = some (.int .u64 laid) := by refine ⟨?_, ?_, ?_, ?_, ?_, ?_, ?_, ?_, ?_, ?_, ?_, ?_, ?_, ?_, ?_⟩ <;> (refine (hb2.cell ?_).trans ?_ <;> first | (first | (with_reducible assumption) | omega | (simp only [szW] <;> omega) | (simp <;> omega)) | (first | (with_reducible assumption) | ((try simp (disch := first | omega | (simp only [szW] <;> omega) | fail) only [ceW]) <;> first | (with_reducible assumption) | rfl)))
    have all_z : w.heap.size < w2.heap.size ∧ w.heap.size + 1 < w2.heap.size := by refine ⟨?_, ?_⟩ <;> (omega)
    clear c_t0 c_t1 c_t2 c_t3 c_t4 c_t5 c_t6 c_t7 c_t8 c_s0 c_s1 c_s2 c_s3 c_s4 c_s5 z_t z_s
    obtain ⟨c_t0, c_t1, c_t2, c_t3, c_t4, c_t5, c_t6, c_t7, c_t8, c_s0, c_s1, c_s2, c_s3, c_s4, c_s5⟩ := all_c
    try clear all_c
    obtain ⟨z_t, z_s⟩ := all_z
    try clear all_z
    have HB2 := Lib.hid (below_via hb2 HB1.out HB1.out.size)
    clear hb2
    cases g with
    | false =>
      have hz8 : z = 8 := hz.symm
      subst hz8
      clear hz
      go_wp2
      go_ret
      exact ⟨rfl, HB2.out⟩
    | true =>
      have hz8 : z = 0 := hz.symm
      subst hz8
      clear hz
      go_wp2
      go_ret
      exact ⟨rfl, HB2.out⟩
theorem Check09_ok (c : Cfg) (s : SlC) (sa : SlA) (hl : s.ws.length ≤ 1000000000000) (hl2 : s.ks.length ≤ 1000000000000) (w : World) (hin : SlIn w s sa) :
    Calls Try.prog 14 #[.agg #[.int .u8 c.tag, .int .i64 c.most, .int .i64 c.seg, .int .i64 c.least, .int .i64 c.den, .int .i64 c.ll, .int .i64 c.rl, .int .i64 c.rh, .int .i64 c.lh], slV s sa] w (AnsB w (.int .i64 (gapE c s))) :=
  Check09_core c s.seg _ _ _ _ _ _ _ _ _ _ _ _ _ (cfMay c) (gapMay c s) w (Lib.hid fun W _ => May05_ok c W) fun hc => Lib.hid fun W hb => May09_ok c hc s sa hl hl2 W (hin.below hb)
end
end Go.Proofs.Ytookgoidlnlckaa
