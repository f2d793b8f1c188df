/-
  HandleGone: what was dropped is never found again.
  No condition.
-/
import Derived.Test.YtonmgmhkejbikaaTabGone
import Derived.Test.YtonmgmhkejbikaaTabLaw3
import Derived.Test.YtonmgmhkejbikaaBoxed
namespace Go.Proofs.Ytonmgmhkejbikaa
open Go.RowKit Go.Shelf
set_option linter.unusedVariables false
set_option linter.unusedSimpArgs false

/-- what holds of the table at each round of HandleGone -/
structure GoneI (w wr : World) (m h : Int) (B k : Nat) (gs ps : List Int) (va ua : Option Addr) (vc uc : Nat) (gi : Bool) (n g : Int) : Prop where
  bx : Boxed wr [(B, 0, .slice va gs.length vc), (B, 1, .slice ua ps.length uc)]
  lx : Boxed wr [(B + 1, 0, .int .i64 n), (B + 1, 1, .int .i64 g)]
  ig : IsInts wr va gs
  ip : IsInts wr ua ps
  bel : Below w.heap.size w wr
  may' : may gs ps = true
  gone : Gone gs m h
  len : gs.length ≤ 300 + k
  giv : gi = true → isH gs ps n g = true
  sz : B + 1 < wr.heap.size
  lo : w.heap.size + 2 ≤ B
  hb0 : wr.cell? ⟨w.heap.size + 1, 0, none⟩ = some (.int .i64 m)
  hb1 : wr.cell? ⟨w.heap.size + 1, 1, none⟩ = some (.int .i64 h)

theorem lost_yes {gs ps : List Int} {n g : Int} (hm : may gs ps = true) (hi : isH gs ps n g = false) : lostB gs ps n g = true := by
  rw [lostB, (findE_not hm hi).1, (findE_not hm hi).2]; simp

/-- a table that was stored over, box by box -/
theorem GoneI.over {w wr W : World} {m h : Int} {B k : Nat} {gs ps gs2 ps2 : List Int} {va ua vb ub : Option Addr} {vc uc vd ud : Nat} {gi gj : Bool} {n g : Int} (hI : GoneI w wr m h B k gs ps va ua vc uc gi n g) (hb : Below wr.heap.size wr W)
    (hg : IsInts W vb gs2) (hp : IsInts W ub ps2) (fg : ∀ x, vb = some x → wr.heap.size ≤ x.block) (fp : ∀ x, ub = some x → wr.heap.size ≤ x.block) (hm : may gs2 ps2 = true) (hn : Gone gs2 m h) (hl : gs2.length ≤ 301 + k) (hi : gj = true → isH gs2 ps2 n g = true) :
    GoneI w ((W.setCell ⟨B, 0, none⟩ (.slice vb gs2.length vd)).setCell ⟨B, 1, none⟩ (.slice ub ps2.length ud)) m h B (k + 1) gs2 ps2 vb ub vd ud gj n g := by
  have hz := hb.size
  have hs := hI.sz
  have hlo := hI.lo
  have d1 : ∀ x, vb = some x → x.block ≠ B := fun x hx => by have := fg x hx; omega
  have d2 : ∀ x, ub = some x → x.block ≠ B := fun x hx => by have := fp x hx; omega
  refine ⟨(hI.bx.below hb).set2, ((hI.lx.below hb).other _ _ ?_).other _ _ ?_, (hg.setCell d1 _).setCell d1 _, (hp.setCell d2 _).setCell d2 _, ((hI.bel.trans (hb.mono hI.bel.size)).setCell (by show w.heap.size ≤ B; omega) _).setCell (by show w.heap.size ≤ B; omega) _, hm, hn, by omega, hi, by simp; omega, hlo, ?_, ?_⟩
  · intro q hq; simp at hq; rcases hq with rfl | rfl <;> simp
  · intro q hq; simp at hq; rcases hq with rfl | rfl <;> simp
  · exact cell_setCell_block (cell_setCell_block ((hb.cell (p := ⟨w.heap.size + 1, 0, none⟩) (by show w.heap.size + 1 < wr.heap.size; omega)).trans hI.hb0) (by show w.heap.size + 1 ≠ B; omega)) (by show w.heap.size + 1 ≠ B; omega)
  · exact cell_setCell_block (cell_setCell_block ((hb.cell (p := ⟨w.heap.size + 1, 1, none⟩) (by show w.heap.size + 1 < wr.heap.size; omega)).trans hI.hb1) (by show w.heap.size + 1 ≠ B; omega)) (by show w.heap.size + 1 ≠ B; omega)
/-- and the handle that was given out last -/
theorem GoneI.last {w wr : World} {m h : Int} {B k : Nat} {gs ps : List Int} {va ua : Option Addr} {vc uc : Nat} {gi : Bool} {n g n2 g2 : Int} (hI : GoneI w wr m h B k gs ps va ua vc uc gi n g) (dv : ∀ x, va = some x → x.block ≠ B + 1) (du : ∀ x, ua = some x → x.block ≠ B + 1) (hi : isH gs ps n2 g2 = true) :
    GoneI w ((wr.setCell ⟨B + 1, 0, none⟩ (.int .i64 n2)).setCell ⟨B + 1, 1, none⟩ (.int .i64 g2)) m h B k gs ps va ua vc uc true n2 g2 := by
  have hs := hI.sz
  have hlo := hI.lo
  refine ⟨(hI.bx.other _ _ ?_).other _ _ ?_, hI.lx.set2, (hI.ig.setCell dv _).setCell dv _, (hI.ip.setCell du _).setCell du _, (hI.bel.setCell (by show w.heap.size ≤ B + 1; omega) _).setCell (by show w.heap.size ≤ B + 1; omega) _, hI.may', hI.gone, hI.len, fun _ => hi, by simpa using hs, hlo, ?_, ?_⟩
  · intro q hq; simp at hq; rcases hq with rfl | rfl <;> simp
  · intro q hq; simp at hq; rcases hq with rfl | rfl <;> simp
  · exact cell_setCell_block (cell_setCell_block hI.hb0 (by show w.heap.size + 1 ≠ B + 1; omega)) (by show w.heap.size + 1 ≠ B + 1; omega)
  · exact cell_setCell_block (cell_setCell_block hI.hb1 (by show w.heap.size + 1 ≠ B + 1; omega)) (by show w.heap.size + 1 ≠ B + 1; omega)
theorem GoneI.drewN {w wr : World} {m h : Int} {B k : Nat} {gs ps : List Int} {va ua : Option Addr} {vc uc : Nat} {gi : Bool} {n g : Int} (hI : GoneI w wr m h B k gs ps va ua vc uc gi n g) (N : Nat) : GoneI w (wr.drewN N) m h B k gs ps va ua vc uc gi n g :=
  ⟨hI.bx, hI.lx, hI.ig, hI.ip, below_drewN hI.bel N, hI.may', hI.gone, hI.len, hI.giv, hI.sz, hI.lo, hI.hb0, hI.hb1⟩
theorem GoneI.below {w wr W : World} {m h : Int} {B k : Nat} {gs ps : List Int} {va ua : Option Addr} {vc uc : Nat} {gi : Bool} {n g : Int} (hI : GoneI w wr m h B k gs ps va ua vc uc gi n g) (hb : Below wr.heap.size wr W) : GoneI w W m h B (k + 1) gs ps va ua vc uc gi n g := by
  have hs := hI.sz
  have hlo := hI.lo
  have hz := hb.size
  exact ⟨hI.bx.below hb, hI.lx.below hb, hI.ig.below hb, hI.ip.below hb, hI.bel.trans (hb.mono hI.bel.size), hI.may', hI.gone, by have := hI.len; omega, hI.giv, by omega, hlo,
    (hb.cell (p := ⟨w.heap.size + 1, 0, none⟩) (by show w.heap.size + 1 < wr.heap.size; omega)).trans hI.hb0, (hb.cell (p := ⟨w.heap.size + 1, 1, none⟩) (by show w.heap.size + 1 < wr.heap.size; omega)).trans hI.hb1⟩

set_option maxRecDepth 100000 in
set_option maxHeartbeats 2000000 in
theorem HandleGone_in (ga aa la : Option Addr) (gc ac lc : Nat) (gs ps xs : List Int) (m h : Int) (w : World) (hg : IsInts w ga gs) (hp : IsInts w aa ps) (hx : IsInts w la xs) (hs : gs.length ≤ 300) (hs2 : ps.length ≤ 300) (hs3 : xs.length ≤ 40) :
    Calls Try.prog 4 #[tabV ga gs.length gc aa ps.length ac, .agg #[.int .i64 m, .int .i64 h], .slice la xs.length lc] w fun e w' => e = .returned (.bool true) ∧ Below w.heap.size w w' := by
  have HG := Lib.hid hg
  have HP := Lib.hid hp
  have HXS := Lib.hid hx
  have DP := fun w' (hb : Below w.heap.size w w') => Drop_ok ga aa gc ac gs ps m h w' (HG.out.below hb) (HP.out.below hb) (by omega) (by omega)
  have AL := Lib.hid alive_ok
  by_cases hok : may gs ps = true ∧ isH gs ps m h = true
  · obtain ⟨hm, hi⟩ := hok
    obtain ⟨i1, i2, i3, i4⟩ := isH_iff.1 hi
    have f1 := drop_may hm hi
    have f2 : Gone (gs.set m.toNat (gs.getD m.toNat 0 + 1)) m h := drop_gone i1 i2 i4
    have f3 : (gs.set m.toNat (gs.getD m.toNat 0 + 1)).length ≤ 300 := by simpa using hs
    simp only [dropR_ok hm hi] at DP
    generalize gs.set m.toNat (gs.getD m.toNat 0 + 1) = G0 at *
    generalize ps.set m.toNat (-1) = P0 at *
    have DP := Lib.hid DP
    have F := Lib.hid (And.intro f1 f2)
    clear hg hp hx hm hi i1 i2 i3 i4 f1 f2
    go_enter Try.func4, Try.ntmps4
    go_wp2_with fail
    refine (AL.out _).mono ?_
    rintro e w1 ⟨rfl, hb1⟩
    have hz_w1 := hb1.size
    try simp only [World.size_alloc, World.size_setCell] at hz_w1
    have c_t0 : w1.cell? ⟨w.heap.size, 0, none⟩ = some (.slice ga gs.length gc) := (hb1.cell (p := ⟨w.heap.size, 0, none⟩) (by (first | (with_reducible assumption) | omega | (simp only [World.size_alloc, World.size_setCell, World.size_drew, World.heap_drewN] <;> omega) | (simp <;> omega)))).trans (by (first | (with_reducible assumption) | ((try simp (disch := first | omega | (simp only [World.size_alloc, World.size_setCell, World.size_drew, World.heap_drewN] <;> omega) | fail) only [World.cell?_alloc_past, World.cell?_alloc_at, World.frozen?_alloc_past, World.frozen?_alloc_at, World.frozen?_setCell, World.cell?_drew, World.frozen?_drew]) <;> first | (with_reducible assumption) | rfl)))
    have c_t1 : w1.cell? ⟨w.heap.size, 1, none⟩ = some (.slice aa ps.length ac) := (hb1.cell (p := ⟨w.heap.size, 1, none⟩) (by (first | (with_reducible assumption) | omega | (simp only [World.size_alloc, World.size_setCell, World.size_drew, World.heap_drewN] <;> omega) | (simp <;> omega)))).trans (by (first | (with_reducible assumption) | ((try simp (disch := first | omega | (simp only [World.size_alloc, World.size_setCell, World.size_drew, World.heap_drewN] <;> omega) | fail) only [World.cell?_alloc_past, World.cell?_alloc_at, World.frozen?_alloc_past, World.frozen?_alloc_at, World.frozen?_setCell, World.cell?_drew, World.frozen?_drew]) <;> first | (with_reducible assumption) | rfl)))
    have z_t : w.heap.size < w1.heap.size := by omega
    have c_h0 : w1.cell? ⟨w.heap.size + 1, 0, none⟩ = some (.int .i64 m) := (hb1.cell (p := ⟨w.heap.size + 1, 0, none⟩) (by (first | (with_reducible assumption) | omega | (simp only [World.size_alloc, World.size_setCell, World.size_drew, World.heap_drewN] <;> omega) | (simp <;> omega)))).trans (by (first | (with_reducible assumption) | ((try simp (disch := first | omega | (simp only [World.size_alloc, World.size_setCell, World.size_drew, World.heap_drewN] <;> omega) | fail) only [World.cell?_alloc_past, World.cell?_alloc_at, World.frozen?_alloc_past, World.frozen?_alloc_at, World.frozen?_setCell, World.cell?_drew, World.frozen?_drew]) <;> first | (with_reducible assumption) | rfl)))
    have c_h1 : w1.cell? ⟨w.heap.size + 1, 1, none⟩ = some (.int .i64 h) := (hb1.cell (p := ⟨w.heap.size + 1, 1, none⟩) (by (first | (with_reducible assumption) | omega | (simp only [World.size_alloc, World.size_setCell, World.size_drew, World.heap_drewN] <;> omega) | (simp <;> omega)))).trans (by (first | (with_reducible assumption) | ((try simp (disch := first | omega | (simp only [World.size_alloc, World.size_setCell, World.size_drew, World.heap_drewN] <;> omega) | fail) only [World.cell?_alloc_past, World.cell?_alloc_at, World.frozen?_alloc_past, World.frozen?_alloc_at, World.frozen?_setCell, World.cell?_drew, World.frozen?_drew]) <;> first | (with_reducible assumption) | rfl)))
    have z_h : w.heap.size + 1 < w1.heap.size := by omega
    go_wp2_with fail
    refine (DP.out _ (by (repeat (first | (with_reducible exact Below.refl _ _) | (with_reducible assumption) | (with_reducible exact Hid.out (by with_reducible assumption)) | (with_reducible refine Below.alloc ?_ ?_ _) | (with_reducible refine Below.setCell ?_ ?_ _) | (with_reducible refine below_drewN ?_ _) | (with_reducible refine Below.drew ?_) | (with_reducible refine below_via (by with_reducible assumption) ?_ ?_) | (first | (with_reducible assumption) | omega | (simp only [World.size_alloc, World.size_setCell, World.size_drew, World.heap_drewN] <;> omega) | (simp <;> omega)))))).mono ?_
    rintro e w2 ⟨v, u, rfl, hov, hou, hne, hb2⟩
    have hz_w2 := hb2.size
    try simp only [World.size_alloc, World.size_setCell] at hz_w2
    replace c_t0 : w2.cell? ⟨w.heap.size, 0, none⟩ = some (.slice ga gs.length gc) := (hb2.cell (p := ⟨w.heap.size, 0, none⟩) (by (first | (with_reducible assumption) | omega | (simp only [World.size_alloc, World.size_setCell, World.size_drew, World.heap_drewN] <;> omega) | (simp <;> omega)))).trans (by (first | (with_reducible assumption) | ((try simp (disch := first | omega | (simp only [World.size_alloc, World.size_setCell, World.size_drew, World.heap_drewN] <;> omega) | fail) only [World.cell?_alloc_past, World.cell?_alloc_at, World.frozen?_alloc_past, World.frozen?_alloc_at, World.frozen?_setCell, World.cell?_drew, World.frozen?_drew]) <;> first | (with_reducible assumption) | rfl)))
    replace c_t1 : w2.cell? ⟨w.heap.size, 1, none⟩ = some (.slice aa ps.length ac) := (hb2.cell (p := ⟨w.heap.size, 1, none⟩) (by (first | (with_reducible assumption) | omega | (simp only [World.size_alloc, World.size_setCell, World.size_drew, World.heap_drewN] <;> omega) | (simp <;> omega)))).trans (by (first | (with_reducible assumption) | ((try simp (disch := first | omega | (simp only [World.size_alloc, World.size_setCell, World.size_drew, World.heap_drewN] <;> omega) | fail) only [World.cell?_alloc_past, World.cell?_alloc_at, World.frozen?_alloc_past, World.frozen?_alloc_at, World.frozen?_setCell, World.cell?_drew, World.frozen?_drew]) <;> first | (with_reducible assumption) | rfl)))
    replace z_t : w.heap.size < w2.heap.size := by omega
    replace c_h0 : w2.cell? ⟨w.heap.size + 1, 0, none⟩ = some (.int .i64 m) := (hb2.cell (p := ⟨w.heap.size + 1, 0, none⟩) (by (first | (with_reducible assumption) | omega | (simp only [World.size_alloc, World.size_setCell, World.size_drew, World.heap_drewN] <;> omega) | (simp <;> omega)))).trans (by (first | (with_reducible assumption) | ((try simp (disch := first | omega | (simp only [World.size_alloc, World.size_setCell, World.size_drew, World.heap_drewN] <;> omega) | fail) only [World.cell?_alloc_past, World.cell?_alloc_at, World.frozen?_alloc_past, World.frozen?_alloc_at, World.frozen?_setCell, World.cell?_drew, World.frozen?_drew]) <;> first | (with_reducible assumption) | rfl)))
    replace c_h1 : w2.cell? ⟨w.heap.size + 1, 1, none⟩ = some (.int .i64 h) := (hb2.cell (p := ⟨w.heap.size + 1, 1, none⟩) (by (first | (with_reducible assumption) | omega | (simp only [World.size_alloc, World.size_setCell, World.size_drew, World.heap_drewN] <;> omega) | (simp <;> omega)))).trans (by (first | (with_reducible assumption) | ((try simp (disch := first | omega | (simp only [World.size_alloc, World.size_setCell, World.size_drew, World.heap_drewN] <;> omega) | fail) only [World.cell?_alloc_past, World.cell?_alloc_at, World.frozen?_alloc_past, World.frozen?_alloc_at, World.frozen?_setCell, World.cell?_drew, World.frozen?_drew]) <;> first | (with_reducible assumption) | rfl)))
    replace z_h : w.heap.size + 1 < w2.heap.size := by omega
    obtain ⟨v0, c0, rfl, hiv, -, -⟩ := ints_of_owns hov
    obtain ⟨u0, d0, rfl, hiu, -, -⟩ := ints_of_owns hou
    have hB2 : Below w.heap.size w w2 := by (repeat (first | (with_reducible exact Below.refl _ _) | (with_reducible assumption) | (with_reducible exact Hid.out (by with_reducible assumption)) | (with_reducible refine Below.alloc ?_ ?_ _) | (with_reducible refine Below.setCell ?_ ?_ _) | (with_reducible refine below_drewN ?_ _) | (with_reducible refine Below.drew ?_) | (with_reducible refine below_via (by with_reducible assumption) ?_ ?_) | (first | (with_reducible assumption) | omega | (simp only [World.size_alloc, World.size_setCell, World.size_drew, World.heap_drewN] <;> omega) | (simp <;> omega))))
    have HIV := Lib.hid hiv
    have HIU := Lib.hid hiu
    have HB2 := Lib.hid hB2
    clear hov hou hne hiv hiu hb1 hb2 hB2
    go_wp2
    go_loopg [11, 12] xs.length (fun gk gv i wr => ∃ (k : Nat) (gs ps : List Int) (va ua : Option Addr) (vc uc : Nat) (gi : Bool) (n g : Int), k + gk = xs.length ∧ i = .int .i64 k ∧ gv = .bool gi ∧ Hid (GoneI w wr m h w2.heap.size k gs ps va ua vc uc gi n g))
    case atStart =>
      refine ⟨0, G0, P0, v0, u0, c0, d0, false, 0, 0, by omega, rfl, rfl, Lib.hid ?_⟩
      have hz : w.heap.size + 2 ≤ w2.heap.size := by omega
      exact ⟨Boxed.cons (by (first | (with_reducible assumption) | ((try simp (disch := first | omega | (simp only [World.size_alloc, World.size_setCell, World.size_drew, World.heap_drewN] <;> omega) | fail) only [World.cell?_alloc_past, World.cell?_alloc_at, World.frozen?_alloc_past, World.frozen?_alloc_at, World.frozen?_setCell, World.cell?_drew, World.frozen?_drew]) <;> first | (with_reducible assumption) | rfl))) (by (first | (with_reducible assumption) | ((try simp (disch := first | omega | (simp only [World.size_alloc, World.size_setCell, World.size_drew, World.heap_drewN] <;> omega) | fail) only [World.cell?_alloc_past, World.cell?_alloc_at, World.frozen?_alloc_past, World.frozen?_alloc_at, World.frozen?_setCell, World.cell?_drew, World.frozen?_drew]) <;> first | (with_reducible assumption) | rfl))) (Boxed.cons (by (first | (with_reducible assumption) | ((try simp (disch := first | omega | (simp only [World.size_alloc, World.size_setCell, World.size_drew, World.heap_drewN] <;> omega) | fail) only [World.cell?_alloc_past, World.cell?_alloc_at, World.frozen?_alloc_past, World.frozen?_alloc_at, World.frozen?_setCell, World.cell?_drew, World.frozen?_drew]) <;> first | (with_reducible assumption) | rfl))) (by (first | (with_reducible assumption) | ((try simp (disch := first | omega | (simp only [World.size_alloc, World.size_setCell, World.size_drew, World.heap_drewN] <;> omega) | fail) only [World.cell?_alloc_past, World.cell?_alloc_at, World.frozen?_alloc_past, World.frozen?_alloc_at, World.frozen?_setCell, World.cell?_drew, World.frozen?_drew]) <;> first | (with_reducible assumption) | rfl))) (Boxed.nil _)), Boxed.cons (by (first | (with_reducible assumption) | ((try simp (disch := first | omega | (simp only [World.size_alloc, World.size_setCell, World.size_drew, World.heap_drewN] <;> omega) | fail) only [World.cell?_alloc_past, World.cell?_alloc_at, World.frozen?_alloc_past, World.frozen?_alloc_at, World.frozen?_setCell, World.cell?_drew, World.frozen?_drew]) <;> first | (with_reducible assumption) | rfl))) (by (first | (with_reducible assumption) | ((try simp (disch := first | omega | (simp only [World.size_alloc, World.size_setCell, World.size_drew, World.heap_drewN] <;> omega) | fail) only [World.cell?_alloc_past, World.cell?_alloc_at, World.frozen?_alloc_past, World.frozen?_alloc_at, World.frozen?_setCell, World.cell?_drew, World.frozen?_drew]) <;> first | (with_reducible assumption) | rfl))) (Boxed.cons (by (first | (with_reducible assumption) | ((try simp (disch := first | omega | (simp only [World.size_alloc, World.size_setCell, World.size_drew, World.heap_drewN] <;> omega) | fail) only [World.cell?_alloc_past, World.cell?_alloc_at, World.frozen?_alloc_past, World.frozen?_alloc_at, World.frozen?_setCell, World.cell?_drew, World.frozen?_drew]) <;> first | (with_reducible assumption) | rfl))) (by (first | (with_reducible assumption) | ((try simp (disch := first | omega | (simp only [World.size_alloc, World.size_setCell, World.size_drew, World.heap_drewN] <;> omega) | fail) only [World.cell?_alloc_past, World.cell?_alloc_at, World.frozen?_alloc_past, World.frozen?_alloc_at, World.frozen?_setCell, World.cell?_drew, World.frozen?_drew]) <;> first | (with_reducible assumption) | rfl))) (Boxed.nil _)), (HIV.out.alloc _).alloc _, (HIU.out.alloc _).alloc _,
        (HB2.out.alloc HB2.out.size _).alloc (by have := HB2.out.size; simp; omega) _, F.out.1, F.out.2, f3, fun h => (by cases h), by simp, hz, by (first | (with_reducible assumption) | ((try simp (disch := first | omega | (simp only [World.size_alloc, World.size_setCell, World.size_drew, World.heap_drewN] <;> omega) | fail) only [World.cell?_alloc_past, World.cell?_alloc_at, World.frozen?_alloc_past, World.frozen?_alloc_at, World.frozen?_setCell, World.cell?_drew, World.frozen?_drew]) <;> first | (with_reducible assumption) | rfl)), by (first | (with_reducible assumption) | ((try simp (disch := first | omega | (simp only [World.size_alloc, World.size_setCell, World.size_drew, World.heap_drewN] <;> omega) | fail) only [World.cell?_alloc_past, World.cell?_alloc_at, World.frozen?_alloc_past, World.frozen?_alloc_at, World.frozen?_setCell, World.cell?_drew, World.frozen?_drew]) <;> first | (with_reducible assumption) | rfl))⟩
    case round =>
      obtain ⟨k, gs', ps', va, ua, vc, uc, gi, n, g, hk, rfl, rfl, HI⟩ := hrel
      have c_x0 := HI.out.bx.cell w2.heap.size 0 (.slice va gs'.length vc) (by simp)
      have f_x0 := HI.out.bx.frozen w2.heap.size 0 (.slice va gs'.length vc) (by simp)
      have c_x1 := HI.out.bx.cell w2.heap.size 1 (.slice ua ps'.length uc) (by simp)
      have f_x1 := HI.out.bx.frozen w2.heap.size 1 (.slice ua ps'.length uc) (by simp)
      have c_l0 := HI.out.lx.cell (w2.heap.size + 1) 0 (.int .i64 n) (by simp)
      have f_l0 := HI.out.lx.frozen (w2.heap.size + 1) 0 (.int .i64 n) (by simp)
      have c_l1 := HI.out.lx.cell (w2.heap.size + 1) 1 (.int .i64 g) (by simp)
      have f_l1 := HI.out.lx.frozen (w2.heap.size + 1) 1 (.int .i64 g) (by simp)
      have c_h0 := HI.out.hb0
      have c_h1 := HI.out.hb1
      have z_x : w2.heap.size < wr.heap.size := by have := HI.out.sz; omega
      have z_l : w2.heap.size + 1 < wr.heap.size := HI.out.sz
      have z_h : w.heap.size + 1 < wr.heap.size := by have := HI.out.lo; omega
      have hlen := HI.out.len
      have hpl : ps'.length ≤ 300 + k := by rw [(may_iff.1 HI.out.may').1]; exact HI.out.len
      clear c_t0 c_t1 z_t hz_w1 hz_w2 HIV HIU HB2 F AL DP HG HP hs hs2
      have LO : ∀ w', Below wr.heap.size wr w' → _ := fun w' hb => lost_ok va ua vc uc gs' ps' m h w' (HI.out.ig.below hb) (HI.out.ip.below hb) (by omega) (by omega)
      simp only [lost_yes HI.out.may' HI.out.gone.not] at LO
      by_cases hlt : k < xs.length
      · obtain ⟨lb, lo, p, rfl, hp, hc, hbl⟩ := (HXS.out.below HI.out.bel).get hlt
        have CK : ∀ w', Below wr.heap.size wr w' → _ := fun w' hb => Check_ok va ua vc uc gs' ps' w' (HI.out.ig.below hb) (HI.out.ip.below hb) (by omega) (by omega)
        simp only [mayE_yes HI.out.may'] at CK
        have LO := Lib.hid LO
        have CK := Lib.hid CK
        go_wp2_with fail
        refine (LO.out _ (Below.refl _ _)).mono ?_
        rintro e w3 ⟨rfl, hb3⟩
        have hz_w3 := hb3.size
        try simp only [World.size_alloc, World.size_setCell] at hz_w3
        have c_x0 : w3.cell? ⟨w2.heap.size, 0, none⟩ = some (.slice va gs'.length vc) := (hb3.cell (p := ⟨w2.heap.size, 0, none⟩) (by (first | (with_reducible assumption) | omega | (simp only [World.size_alloc, World.size_setCell, World.size_drew, World.heap_drewN] <;> omega) | (simp <;> omega)))).trans (by (first | (with_reducible assumption) | ((try simp (disch := first | omega | (simp only [World.size_alloc, World.size_setCell, World.size_drew, World.heap_drewN] <;> omega) | fail) only [World.cell?_alloc_past, World.cell?_alloc_at, World.frozen?_alloc_past, World.frozen?_alloc_at, World.frozen?_setCell, World.cell?_drew, World.frozen?_drew]) <;> first | (with_reducible assumption) | rfl)))
        have f_x0 : w3.frozen? ⟨w2.heap.size, 0, none⟩ = false := (hb3.frozen (p := ⟨w2.heap.size, 0, none⟩) (by (first | (with_reducible assumption) | omega | (simp only [World.size_alloc, World.size_setCell, World.size_drew, World.heap_drewN] <;> omega) | (simp <;> omega)))).trans (by (first | (with_reducible assumption) | ((try simp (disch := first | omega | (simp only [World.size_alloc, World.size_setCell, World.size_drew, World.heap_drewN] <;> omega) | fail) only [World.cell?_alloc_past, World.cell?_alloc_at, World.frozen?_alloc_past, World.frozen?_alloc_at, World.frozen?_setCell, World.cell?_drew, World.frozen?_drew]) <;> first | (with_reducible assumption) | rfl)))
        have c_x1 : w3.cell? ⟨w2.heap.size, 1, none⟩ = some (.slice ua ps'.length uc) := (hb3.cell (p := ⟨w2.heap.size, 1, none⟩) (by (first | (with_reducible assumption) | omega | (simp only [World.size_alloc, World.size_setCell, World.size_drew, World.heap_drewN] <;> omega) | (simp <;> omega)))).trans (by (first | (with_reducible assumption) | ((try simp (disch := first | omega | (simp only [World.size_alloc, World.size_setCell, World.size_drew, World.heap_drewN] <;> omega) | fail) only [World.cell?_alloc_past, World.cell?_alloc_at, World.frozen?_alloc_past, World.frozen?_alloc_at, World.frozen?_setCell, World.cell?_drew, World.frozen?_drew]) <;> first | (with_reducible assumption) | rfl)))
        have f_x1 : w3.frozen? ⟨w2.heap.size, 1, none⟩ = false := (hb3.frozen (p := ⟨w2.heap.size, 1, none⟩) (by (first | (with_reducible assumption) | omega | (simp only [World.size_alloc, World.size_setCell, World.size_drew, World.heap_drewN] <;> omega) | (simp <;> omega)))).trans (by (first | (with_reducible assumption) | ((try simp (disch := first | omega | (simp only [World.size_alloc, World.size_setCell, World.size_drew, World.heap_drewN] <;> omega) | fail) only [World.cell?_alloc_past, World.cell?_alloc_at, World.frozen?_alloc_past, World.frozen?_alloc_at, World.frozen?_setCell, World.cell?_drew, World.frozen?_drew]) <;> first | (with_reducible assumption) | rfl)))
        have z_x : w2.heap.size < w3.heap.size := by omega
        have c_l0 : w3.cell? ⟨w2.heap.size + 1, 0, none⟩ = some (.int .i64 n) := (hb3.cell (p := ⟨w2.heap.size + 1, 0, none⟩) (by (first | (with_reducible assumption) | omega | (simp only [World.size_alloc, World.size_setCell, World.size_drew, World.heap_drewN] <;> omega) | (simp <;> omega)))).trans (by (first | (with_reducible assumption) | ((try simp (disch := first | omega | (simp only [World.size_alloc, World.size_setCell, World.size_drew, World.heap_drewN] <;> omega) | fail) only [World.cell?_alloc_past, World.cell?_alloc_at, World.frozen?_alloc_past, World.frozen?_alloc_at, World.frozen?_setCell, World.cell?_drew, World.frozen?_drew]) <;> first | (with_reducible assumption) | rfl)))
        have f_l0 : w3.frozen? ⟨w2.heap.size + 1, 0, none⟩ = false := (hb3.frozen (p := ⟨w2.heap.size + 1, 0, none⟩) (by (first | (with_reducible assumption) | omega | (simp only [World.size_alloc, World.size_setCell, World.size_drew, World.heap_drewN] <;> omega) | (simp <;> omega)))).trans (by (first | (with_reducible assumption) | ((try simp (disch := first | omega | (simp only [World.size_alloc, World.size_setCell, World.size_drew, World.heap_drewN] <;> omega) | fail) only [World.cell?_alloc_past, World.cell?_alloc_at, World.frozen?_alloc_past, World.frozen?_alloc_at, World.frozen?_setCell, World.cell?_drew, World.frozen?_drew]) <;> first | (with_reducible assumption) | rfl)))
        have c_l1 : w3.cell? ⟨w2.heap.size + 1, 1, none⟩ = some (.int .i64 g) := (hb3.cell (p := ⟨w2.heap.size + 1, 1, none⟩) (by (first | (with_reducible assumption) | omega | (simp only [World.size_alloc, World.size_setCell, World.size_drew, World.heap_drewN] <;> omega) | (simp <;> omega)))).trans (by (first | (with_reducible assumption) | ((try simp (disch := first | omega | (simp only [World.size_alloc, World.size_setCell, World.size_drew, World.heap_drewN] <;> omega) | fail) only [World.cell?_alloc_past, World.cell?_alloc_at, World.frozen?_alloc_past, World.frozen?_alloc_at, World.frozen?_setCell, World.cell?_drew, World.frozen?_drew]) <;> first | (with_reducible assumption) | rfl)))
        have f_l1 : w3.frozen? ⟨w2.heap.size + 1, 1, none⟩ = false := (hb3.frozen (p := ⟨w2.heap.size + 1, 1, none⟩) (by (first | (with_reducible assumption) | omega | (simp only [World.size_alloc, World.size_setCell, World.size_drew, World.heap_drewN] <;> omega) | (simp <;> omega)))).trans (by (first | (with_reducible assumption) | ((try simp (disch := first | omega | (simp only [World.size_alloc, World.size_setCell, World.size_drew, World.heap_drewN] <;> omega) | fail) only [World.cell?_alloc_past, World.cell?_alloc_at, World.frozen?_alloc_past, World.frozen?_alloc_at, World.frozen?_setCell, World.cell?_drew, World.frozen?_drew]) <;> first | (with_reducible assumption) | rfl)))
        have z_l : w2.heap.size + 1 < w3.heap.size := by omega
        have c_h0 : w3.cell? ⟨w.heap.size + 1, 0, none⟩ = some (.int .i64 m) := (hb3.cell (p := ⟨w.heap.size + 1, 0, none⟩) (by (first | (with_reducible assumption) | omega | (simp only [World.size_alloc, World.size_setCell, World.size_drew, World.heap_drewN] <;> omega) | (simp <;> omega)))).trans (by (first | (with_reducible assumption) | ((try simp (disch := first | omega | (simp only [World.size_alloc, World.size_setCell, World.size_drew, World.heap_drewN] <;> omega) | fail) only [World.cell?_alloc_past, World.cell?_alloc_at, World.frozen?_alloc_past, World.frozen?_alloc_at, World.frozen?_setCell, World.cell?_drew, World.frozen?_drew]) <;> first | (with_reducible assumption) | rfl)))
        have c_h1 : w3.cell? ⟨w.heap.size + 1, 1, none⟩ = some (.int .i64 h) := (hb3.cell (p := ⟨w.heap.size + 1, 1, none⟩) (by (first | (with_reducible assumption) | omega | (simp only [World.size_alloc, World.size_setCell, World.size_drew, World.heap_drewN] <;> omega) | (simp <;> omega)))).trans (by (first | (with_reducible assumption) | ((try simp (disch := first | omega | (simp only [World.size_alloc, World.size_setCell, World.size_drew, World.heap_drewN] <;> omega) | fail) only [World.cell?_alloc_past, World.cell?_alloc_at, World.frozen?_alloc_past, World.frozen?_alloc_at, World.frozen?_setCell, World.cell?_drew, World.frozen?_drew]) <;> first | (with_reducible assumption) | rfl)))
        have z_h : w.heap.size + 1 < w3.heap.size := by omega
        go_wp2_with fail
        refine (CK.out _ hb3).mono ?_
        rintro e w4 ⟨rfl, hb4⟩
        have hz_w4 := hb4.size
        try simp only [World.size_alloc, World.size_setCell] at hz_w4
        replace c_x0 : w4.cell? ⟨w2.heap.size, 0, none⟩ = some (.slice va gs'.length vc) := (hb4.cell (p := ⟨w2.heap.size, 0, none⟩) (by (first | (with_reducible assumption) | omega | (simp only [World.size_alloc, World.size_setCell, World.size_drew, World.heap_drewN] <;> omega) | (simp <;> omega)))).trans (by (first | (with_reducible assumption) | ((try simp (disch := first | omega | (simp only [World.size_alloc, World.size_setCell, World.size_drew, World.heap_drewN] <;> omega) | fail) only [World.cell?_alloc_past, World.cell?_alloc_at, World.frozen?_alloc_past, World.frozen?_alloc_at, World.frozen?_setCell, World.cell?_drew, World.frozen?_drew]) <;> first | (with_reducible assumption) | rfl)))
        replace f_x0 : w4.frozen? ⟨w2.heap.size, 0, none⟩ = false := (hb4.frozen (p := ⟨w2.heap.size, 0, none⟩) (by (first | (with_reducible assumption) | omega | (simp only [World.size_alloc, World.size_setCell, World.size_drew, World.heap_drewN] <;> omega) | (simp <;> omega)))).trans (by (first | (with_reducible assumption) | ((try simp (disch := first | omega | (simp only [World.size_alloc, World.size_setCell, World.size_drew, World.heap_drewN] <;> omega) | fail) only [World.cell?_alloc_past, World.cell?_alloc_at, World.frozen?_alloc_past, World.frozen?_alloc_at, World.frozen?_setCell, World.cell?_drew, World.frozen?_drew]) <;> first | (with_reducible assumption) | rfl)))
        replace c_x1 : w4.cell? ⟨w2.heap.size, 1, none⟩ = some (.slice ua ps'.length uc) := (hb4.cell (p := ⟨w2.heap.size, 1, none⟩) (by (first | (with_reducible assumption) | omega | (simp only [World.size_alloc, World.size_setCell, World.size_drew, World.heap_drewN] <;> omega) | (simp <;> omega)))).trans (by (first | (with_reducible assumption) | ((try simp (disch := first | omega | (simp only [World.size_alloc, World.size_setCell, World.size_drew, World.heap_drewN] <;> omega) | fail) only [World.cell?_alloc_past, World.cell?_alloc_at, World.frozen?_alloc_past, World.frozen?_alloc_at, World.frozen?_setCell, World.cell?_drew, World.frozen?_drew]) <;> first | (with_reducible assumption) | rfl)))
        replace f_x1 : w4.frozen? ⟨w2.heap.size, 1, none⟩ = false := (hb4.frozen (p := ⟨w2.heap.size, 1, none⟩) (by (first | (with_reducible assumption) | omega | (simp only [World.size_alloc, World.size_setCell, World.size_drew, World.heap_drewN] <;> omega) | (simp <;> omega)))).trans (by (first | (with_reducible assumption) | ((try simp (disch := first | omega | (simp only [World.size_alloc, World.size_setCell, World.size_drew, World.heap_drewN] <;> omega) | fail) only [World.cell?_alloc_past, World.cell?_alloc_at, World.frozen?_alloc_past, World.frozen?_alloc_at, World.frozen?_setCell, World.cell?_drew, World.frozen?_drew]) <;> first | (with_reducible assumption) | rfl)))
        replace z_x : w2.heap.size < w4.heap.size := by omega
        replace c_l0 : w4.cell? ⟨w2.heap.size + 1, 0, none⟩ = some (.int .i64 n) := (hb4.cell (p := ⟨w2.heap.size + 1, 0, none⟩) (by (first | (with_reducible assumption) | omega | (simp only [World.size_alloc, World.size_setCell, World.size_drew, World.heap_drewN] <;> omega) | (simp <;> omega)))).trans (by (first | (with_reducible assumption) | ((try simp (disch := first | omega | (simp only [World.size_alloc, World.size_setCell, World.size_drew, World.heap_drewN] <;> omega) | fail) only [World.cell?_alloc_past, World.cell?_alloc_at, World.frozen?_alloc_past, World.frozen?_alloc_at, World.frozen?_setCell, World.cell?_drew, World.frozen?_drew]) <;> first | (with_reducible assumption) | rfl)))
        replace f_l0 : w4.frozen? ⟨w2.heap.size + 1, 0, none⟩ = false := (hb4.frozen (p := ⟨w2.heap.size + 1, 0, none⟩) (by (first | (with_reducible assumption) | omega | (simp only [World.size_alloc, World.size_setCell, World.size_drew, World.heap_drewN] <;> omega) | (simp <;> omega)))).trans (by (first | (with_reducible assumption) | ((try simp (disch := first | omega | (simp only [World.size_alloc, World.size_setCell, World.size_drew, World.heap_drewN] <;> omega) | fail) only [World.cell?_alloc_past, World.cell?_alloc_at, World.frozen?_alloc_past, World.frozen?_alloc_at, World.frozen?_setCell, World.cell?_drew, World.frozen?_drew]) <;> first | (with_reducible assumption) | rfl)))
        replace c_l1 : w4.cell? ⟨w2.heap.size + 1, 1, none⟩ = some (.int .i64 g) := (hb4.cell (p := ⟨w2.heap.size + 1, 1, none⟩) (by (first | (with_reducible assumption) | omega | (simp only [World.size_alloc, World.size_setCell, World.size_drew, World.heap_drewN] <;> omega) | (simp <;> omega)))).trans (by (first | (with_reducible assumption) | ((try simp (disch := first | omega | (simp only [World.size_alloc, World.size_setCell, World.size_drew, World.heap_drewN] <;> omega) | fail) only [World.cell?_alloc_past, World.cell?_alloc_at, World.frozen?_alloc_past, World.frozen?_alloc_at, World.frozen?_setCell, World.cell?_drew, World.frozen?_drew]) <;> first | (with_reducible assumption) | rfl)))
        replace f_l1 : w4.frozen? ⟨w2.heap.size + 1, 1, none⟩ = false := (hb4.frozen (p := ⟨w2.heap.size + 1, 1, none⟩) (by (first | (with_reducible assumption) | omega | (simp only [World.size_alloc, World.size_setCell, World.size_drew, World.heap_drewN] <;> omega) | (simp <;> omega)))).trans (by (first | (with_reducible assumption) | ((try simp (disch := first | omega | (simp only [World.size_alloc, World.size_setCell, World.size_drew, World.heap_drewN] <;> omega) | fail) only [World.cell?_alloc_past, World.cell?_alloc_at, World.frozen?_alloc_past, World.frozen?_alloc_at, World.frozen?_setCell, World.cell?_drew, World.frozen?_drew]) <;> first | (with_reducible assumption) | rfl)))
        replace z_l : w2.heap.size + 1 < w4.heap.size := by omega
        replace c_h0 : w4.cell? ⟨w.heap.size + 1, 0, none⟩ = some (.int .i64 m) := (hb4.cell (p := ⟨w.heap.size + 1, 0, none⟩) (by (first | (with_reducible assumption) | omega | (simp only [World.size_alloc, World.size_setCell, World.size_drew, World.heap_drewN] <;> omega) | (simp <;> omega)))).trans (by (first | (with_reducible assumption) | ((try simp (disch := first | omega | (simp only [World.size_alloc, World.size_setCell, World.size_drew, World.heap_drewN] <;> omega) | fail) only [World.cell?_alloc_past, World.cell?_alloc_at, World.frozen?_alloc_past, World.frozen?_alloc_at, World.frozen?_setCell, World.cell?_drew, World.frozen?_drew]) <;> first | (with_reducible assumption) | rfl)))
        replace c_h1 : w4.cell? ⟨w.heap.size + 1, 1, none⟩ = some (.int .i64 h) := (hb4.cell (p := ⟨w.heap.size + 1, 1, none⟩) (by (first | (with_reducible assumption) | omega | (simp only [World.size_alloc, World.size_setCell, World.size_drew, World.heap_drewN] <;> omega) | (simp <;> omega)))).trans (by (first | (with_reducible assumption) | ((try simp (disch := first | omega | (simp only [World.size_alloc, World.size_setCell, World.size_drew, World.heap_drewN] <;> omega) | fail) only [World.cell?_alloc_past, World.cell?_alloc_at, World.frozen?_alloc_past, World.frozen?_alloc_at, World.frozen?_setCell, World.cell?_drew, World.frozen?_drew]) <;> first | (with_reducible assumption) | rfl)))
        replace z_h : w.heap.size + 1 < w4.heap.size := by omega
        have hb34 : Below wr.heap.size wr w4 := hb3.trans (hb4.mono hb3.size)
        have hc4 := (hb34.cell (p := ⟨lb, lo + k, none⟩) hbl).trans hc
        have hbl4 : lb < w4.heap.size := by have := hb34.size; omega
        clear hb3 hb4 hc
        by_cases hp0 : 0 ≤ p
        · obtain ⟨r1, r2⟩ := make_room (a := p) HI.out.may' hp0 (by omega)
          obtain ⟨-, -, hM⟩ := made_of r1
          obtain ⟨q1, q2⟩ := HI.out.gone.made hM
          have MK : ∀ w' va ua vc uc, IsInts w' va gs' → IsInts w' ua ps' → Calls Try.prog 23 #[tabV va gs'.length vc ua ps'.length uc, .int .i64 p] w' (MakeRes w' (makeG gs' ps' p) (makeP gs' ps' p) (makeN gs' ps' p) (makeK gs' ps' p) 0) := by
            intro w' va ua vc uc h1 h2
            have := Make_ok va ua vc uc gs' ps' p w' h1 h2 (by omega) (by omega)
            rwa [MakeR, r2] at this
          have q4 := hM.len
          have q5 := hM.may2
          have q6 := hM.is2
          generalize makeG gs' ps' p = G1 at *
          generalize makeP gs' ps' p = P1 at *
          generalize makeN gs' ps' p = N1 at *
          generalize makeK gs' ps' p = K1 at *
          have MK := Lib.hid MK
          have Q := Lib.hid (And.intro q1 (And.intro q5 q6))
          have HGS := Lib.hid (HI.out.ig.below hb34)
          have HPS := Lib.hid (HI.out.ip.below hb34)
          have q7 : G1.length ≤ 301 + k := by omega
          clear r1 r2 hM q1 q4 q5 q6
          go_wp2
          refine Code.wp_mono ?_ (gone_region c_x0 c_x1 hc4 hlt HGS HPS MK)
          intro e a' w' hq
          cases e with
          | normal =>
            obtain ⟨b13, b14, vy, uy, cy, dy, hP, u, rfl⟩ := hq
            have HPP := Lib.hid hP
            have hz5 := hP.bel.size
            have c_y0 := hP.b0
            have c_y1 := hP.b1
            have c_z0 := hP.c0
            have c_z1 := hP.c1
            have hby := hP.lb
            have hbz := hP.lc
            have z_y := hP.ub
            have z_z := hP.uc
            have hbel5 := hP.bel
            clear hP
            have hz_w' := hbel5.size
            try simp only [World.size_alloc, World.size_setCell] at hz_w'
            replace c_x0 : w'.cell? ⟨w2.heap.size, 0, none⟩ = some (.slice va gs'.length vc) := (hbel5.cell (p := ⟨w2.heap.size, 0, none⟩) (by (first | (with_reducible assumption) | omega | (simp only [World.size_alloc, World.size_setCell, World.size_drew, World.heap_drewN] <;> omega) | (simp <;> omega)))).trans (by (first | (with_reducible assumption) | ((try simp (disch := first | omega | (simp only [World.size_alloc, World.size_setCell, World.size_drew, World.heap_drewN] <;> omega) | fail) only [World.cell?_alloc_past, World.cell?_alloc_at, World.frozen?_alloc_past, World.frozen?_alloc_at, World.frozen?_setCell, World.cell?_drew, World.frozen?_drew]) <;> first | (with_reducible assumption) | rfl)))
            replace f_x0 : w'.frozen? ⟨w2.heap.size, 0, none⟩ = false := (hbel5.frozen (p := ⟨w2.heap.size, 0, none⟩) (by (first | (with_reducible assumption) | omega | (simp only [World.size_alloc, World.size_setCell, World.size_drew, World.heap_drewN] <;> omega) | (simp <;> omega)))).trans (by (first | (with_reducible assumption) | ((try simp (disch := first | omega | (simp only [World.size_alloc, World.size_setCell, World.size_drew, World.heap_drewN] <;> omega) | fail) only [World.cell?_alloc_past, World.cell?_alloc_at, World.frozen?_alloc_past, World.frozen?_alloc_at, World.frozen?_setCell, World.cell?_drew, World.frozen?_drew]) <;> first | (with_reducible assumption) | rfl)))
            replace c_x1 : w'.cell? ⟨w2.heap.size, 1, none⟩ = some (.slice ua ps'.length uc) := (hbel5.cell (p := ⟨w2.heap.size, 1, none⟩) (by (first | (with_reducible assumption) | omega | (simp only [World.size_alloc, World.size_setCell, World.size_drew, World.heap_drewN] <;> omega) | (simp <;> omega)))).trans (by (first | (with_reducible assumption) | ((try simp (disch := first | omega | (simp only [World.size_alloc, World.size_setCell, World.size_drew, World.heap_drewN] <;> omega) | fail) only [World.cell?_alloc_past, World.cell?_alloc_at, World.frozen?_alloc_past, World.frozen?_alloc_at, World.frozen?_setCell, World.cell?_drew, World.frozen?_drew]) <;> first | (with_reducible assumption) | rfl)))
            replace f_x1 : w'.frozen? ⟨w2.heap.size, 1, none⟩ = false := (hbel5.frozen (p := ⟨w2.heap.size, 1, none⟩) (by (first | (with_reducible assumption) | omega | (simp only [World.size_alloc, World.size_setCell, World.size_drew, World.heap_drewN] <;> omega) | (simp <;> omega)))).trans (by (first | (with_reducible assumption) | ((try simp (disch := first | omega | (simp only [World.size_alloc, World.size_setCell, World.size_drew, World.heap_drewN] <;> omega) | fail) only [World.cell?_alloc_past, World.cell?_alloc_at, World.frozen?_alloc_past, World.frozen?_alloc_at, World.frozen?_setCell, World.cell?_drew, World.frozen?_drew]) <;> first | (with_reducible assumption) | rfl)))
            replace z_x : w2.heap.size < w'.heap.size := by omega
            replace c_l0 : w'.cell? ⟨w2.heap.size + 1, 0, none⟩ = some (.int .i64 n) := (hbel5.cell (p := ⟨w2.heap.size + 1, 0, none⟩) (by (first | (with_reducible assumption) | omega | (simp only [World.size_alloc, World.size_setCell, World.size_drew, World.heap_drewN] <;> omega) | (simp <;> omega)))).trans (by (first | (with_reducible assumption) | ((try simp (disch := first | omega | (simp only [World.size_alloc, World.size_setCell, World.size_drew, World.heap_drewN] <;> omega) | fail) only [World.cell?_alloc_past, World.cell?_alloc_at, World.frozen?_alloc_past, World.frozen?_alloc_at, World.frozen?_setCell, World.cell?_drew, World.frozen?_drew]) <;> first | (with_reducible assumption) | rfl)))
            replace f_l0 : w'.frozen? ⟨w2.heap.size + 1, 0, none⟩ = false := (hbel5.frozen (p := ⟨w2.heap.size + 1, 0, none⟩) (by (first | (with_reducible assumption) | omega | (simp only [World.size_alloc, World.size_setCell, World.size_drew, World.heap_drewN] <;> omega) | (simp <;> omega)))).trans (by (first | (with_reducible assumption) | ((try simp (disch := first | omega | (simp only [World.size_alloc, World.size_setCell, World.size_drew, World.heap_drewN] <;> omega) | fail) only [World.cell?_alloc_past, World.cell?_alloc_at, World.frozen?_alloc_past, World.frozen?_alloc_at, World.frozen?_setCell, World.cell?_drew, World.frozen?_drew]) <;> first | (with_reducible assumption) | rfl)))
            replace c_l1 : w'.cell? ⟨w2.heap.size + 1, 1, none⟩ = some (.int .i64 g) := (hbel5.cell (p := ⟨w2.heap.size + 1, 1, none⟩) (by (first | (with_reducible assumption) | omega | (simp only [World.size_alloc, World.size_setCell, World.size_drew, World.heap_drewN] <;> omega) | (simp <;> omega)))).trans (by (first | (with_reducible assumption) | ((try simp (disch := first | omega | (simp only [World.size_alloc, World.size_setCell, World.size_drew, World.heap_drewN] <;> omega) | fail) only [World.cell?_alloc_past, World.cell?_alloc_at, World.frozen?_alloc_past, World.frozen?_alloc_at, World.frozen?_setCell, World.cell?_drew, World.frozen?_drew]) <;> first | (with_reducible assumption) | rfl)))
            replace f_l1 : w'.frozen? ⟨w2.heap.size + 1, 1, none⟩ = false := (hbel5.frozen (p := ⟨w2.heap.size + 1, 1, none⟩) (by (first | (with_reducible assumption) | omega | (simp only [World.size_alloc, World.size_setCell, World.size_drew, World.heap_drewN] <;> omega) | (simp <;> omega)))).trans (by (first | (with_reducible assumption) | ((try simp (disch := first | omega | (simp only [World.size_alloc, World.size_setCell, World.size_drew, World.heap_drewN] <;> omega) | fail) only [World.cell?_alloc_past, World.cell?_alloc_at, World.frozen?_alloc_past, World.frozen?_alloc_at, World.frozen?_setCell, World.cell?_drew, World.frozen?_drew]) <;> first | (with_reducible assumption) | rfl)))
            replace z_l : w2.heap.size + 1 < w'.heap.size := by omega
            replace c_h0 : w'.cell? ⟨w.heap.size + 1, 0, none⟩ = some (.int .i64 m) := (hbel5.cell (p := ⟨w.heap.size + 1, 0, none⟩) (by (first | (with_reducible assumption) | omega | (simp only [World.size_alloc, World.size_setCell, World.size_drew, World.heap_drewN] <;> omega) | (simp <;> omega)))).trans (by (first | (with_reducible assumption) | ((try simp (disch := first | omega | (simp only [World.size_alloc, World.size_setCell, World.size_drew, World.heap_drewN] <;> omega) | fail) only [World.cell?_alloc_past, World.cell?_alloc_at, World.frozen?_alloc_past, World.frozen?_alloc_at, World.frozen?_setCell, World.cell?_drew, World.frozen?_drew]) <;> first | (with_reducible assumption) | rfl)))
            replace c_h1 : w'.cell? ⟨w.heap.size + 1, 1, none⟩ = some (.int .i64 h) := (hbel5.cell (p := ⟨w.heap.size + 1, 1, none⟩) (by (first | (with_reducible assumption) | omega | (simp only [World.size_alloc, World.size_setCell, World.size_drew, World.heap_drewN] <;> omega) | (simp <;> omega)))).trans (by (first | (with_reducible assumption) | ((try simp (disch := first | omega | (simp only [World.size_alloc, World.size_setCell, World.size_drew, World.heap_drewN] <;> omega) | fail) only [World.cell?_alloc_past, World.cell?_alloc_at, World.frozen?_alloc_past, World.frozen?_alloc_at, World.frozen?_setCell, World.cell?_drew, World.frozen?_drew]) <;> first | (with_reducible assumption) | rfl)))
            replace z_h : w.heap.size + 1 < w'.heap.size := by omega
            clear hbel5
            have hne2 : N1 = m → (K1 == h) = false := by
              intro e
              have : K1 ≠ h := fun e2 => q2 ⟨e, e2⟩
              simpa using this
            have HNE := Lib.hid hne2
            clear hne2 q2 hc4
            by_cases hnm : N1 = m
            · have hkh := HNE.out hnm
              subst hnm
              have e1 : (N1 == N1) = true := by simp
              go_wp2
              go_region
              all_goals
                go_wp2
                go_roundg (gk - 1)
                case measure => omega
                case rel =>
                  have hP := HPP.out
                  have h3 : Below wr.heap.size wr w' := hb34.trans (hP.bel.mono hb34.size)
                  have h34 := hb34.size
                  have fy : ∀ x, vy = some x → wr.heap.size ≤ x.block := fun x hx => Nat.le_trans h34 (hP.gb x hx)
                  have fu : ∀ x, uy = some x → wr.heap.size ≤ x.block := fun x hx => Nat.le_trans h34 (hP.pb x hx)
                  have hO := HI.out.over (W := w') (gj := false) (vd := cy) (ud := dy) h3 hP.g hP.p fy fu Q.out.2.1 Q.out.1 q7 (fun h => by cases h)
                  exact ⟨k + 1, G1, P1, vy, uy, cy, dy, true, _, _, by omega, by go_num, rfl, Lib.hid ((hO.last (fun x hx => by have := fy x hx; omega) (fun x hx => by have := fu x hx; omega) Q.out.2.2).drewN 1)⟩
            · have e1 : (N1 == m) = false := by simpa using hnm
              clear hnm
              go_wp2
              go_region
              all_goals
                go_wp2
                go_roundg (gk - 1)
                case measure => omega
                case rel =>
                  have hP := HPP.out
                  have h3 : Below wr.heap.size wr w' := hb34.trans (hP.bel.mono hb34.size)
                  have h34 := hb34.size
                  have fy : ∀ x, vy = some x → wr.heap.size ≤ x.block := fun x hx => Nat.le_trans h34 (hP.gb x hx)
                  have fu : ∀ x, uy = some x → wr.heap.size ≤ x.block := fun x hx => Nat.le_trans h34 (hP.pb x hx)
                  have hO := HI.out.over (W := w') (gj := false) (vd := cy) (ud := dy) h3 hP.g hP.p fy fu Q.out.2.1 Q.out.1 q7 (fun h => by cases h)
                  exact ⟨k + 1, G1, P1, vy, uy, cy, dy, true, _, _, by omega, by go_num, rfl, Lib.hid ((hO.last (fun x hx => by have := fy x hx; omega) (fun x hx => by have := fu x hx; omega) Q.out.2.2).drewN 1)⟩
          | ret => exact hq.elim
          | exit id => exact hq.elim
          | goto t => exact hq.elim
          | panic ch => exact hq.elim
          | outgrown => exact hq.elim
        · cases gi with
          | false =>
            go_wp2
            go_roundg (gk - 1)
            case measure => omega
            case rel => exact ⟨k + 1, gs', ps', va, ua, vc, uc, false, n, g, by omega, by go_num, rfl, Lib.hid (HI.out.below hb34)⟩
          | true =>
            have hi := HI.out.giv rfl
            obtain ⟨i1, i2, i3, i4⟩ := isH_iff.1 hi
            have q1 := drop_may HI.out.may' hi
            have q2 := HI.out.gone.drop (n := n)
            have q3 := drop_lost HI.out.may' hi
            have q4 : (gs'.set n.toNat (gs'.getD n.toNat 0 + 1)).length ≤ 301 + k := by rw [List.length_set]; omega
            have DP := Drop_ok va ua vc uc gs' ps' n g w4 (HI.out.ig.below hb34) (HI.out.ip.below hb34) (by omega) (by omega)
            simp only [dropR_ok HI.out.may' hi] at DP
            have hgl : (ps'.set n.toNat (-1)).length ≤ 301 + k := by rw [List.length_set]; omega
            generalize gs'.set n.toNat (gs'.getD n.toNat 0 + 1) = G1 at *
            generalize ps'.set n.toNat (-1) = P1 at *
            have DP := Lib.hid DP
            have Q := Lib.hid (And.intro q1 (And.intro q2 q3))
            have LY : ∀ w' vb ub vd ud, IsInts w' vb G1 → IsInts w' ub P1 → Calls Try.prog 22 #[tabV vb G1.length vd ub P1.length ud, .agg #[.int .i64 n, .int .i64 g]] w' fun e w'' => e = .returned (.bool (lostB G1 P1 n g)) ∧ Below w'.heap.size w' w'' :=
              fun w' vb ub vd ud h1 h2 => lost_ok vb ub vd ud G1 P1 n g w' h1 h2 (by omega) (by omega)
            rw [lost_yes q1 q3] at LY
            have LY := Lib.hid LY
            clear hi i1 i2 i3 i4 q1 q2 q3
            go_wp2_with fail
            refine DP.out.mono ?_
            rintro e w5 ⟨v, u, rfl, hov, hou, hne, hb5⟩
            obtain ⟨vb, vd, rfl, hiv, fv, -⟩ := ints_of_owns hov
            obtain ⟨ub, ud, rfl, hiu, fu, -⟩ := ints_of_owns hou
            have HIV := Lib.hid hiv
            have HIU := Lib.hid hiu
            have HFV := Lib.hid fv
            have HFU := Lib.hid fu
            have hz_w5 := hb5.size
            try simp only [World.size_alloc, World.size_setCell] at hz_w5
            replace c_x0 : w5.cell? ⟨w2.heap.size, 0, none⟩ = some (.slice va gs'.length vc) := (hb5.cell (p := ⟨w2.heap.size, 0, none⟩) (by (first | (with_reducible assumption) | omega | (simp only [World.size_alloc, World.size_setCell, World.size_drew, World.heap_drewN] <;> omega) | (simp <;> omega)))).trans (by (first | (with_reducible assumption) | ((try simp (disch := first | omega | (simp only [World.size_alloc, World.size_setCell, World.size_drew, World.heap_drewN] <;> omega) | fail) only [World.cell?_alloc_past, World.cell?_alloc_at, World.frozen?_alloc_past, World.frozen?_alloc_at, World.frozen?_setCell, World.cell?_drew, World.frozen?_drew]) <;> first | (with_reducible assumption) | rfl)))
            replace f_x0 : w5.frozen? ⟨w2.heap.size, 0, none⟩ = false := (hb5.frozen (p := ⟨w2.heap.size, 0, none⟩) (by (first | (with_reducible assumption) | omega | (simp only [World.size_alloc, World.size_setCell, World.size_drew, World.heap_drewN] <;> omega) | (simp <;> omega)))).trans (by (first | (with_reducible assumption) | ((try simp (disch := first | omega | (simp only [World.size_alloc, World.size_setCell, World.size_drew, World.heap_drewN] <;> omega) | fail) only [World.cell?_alloc_past, World.cell?_alloc_at, World.frozen?_alloc_past, World.frozen?_alloc_at, World.frozen?_setCell, World.cell?_drew, World.frozen?_drew]) <;> first | (with_reducible assumption) | rfl)))
            replace c_x1 : w5.cell? ⟨w2.heap.size, 1, none⟩ = some (.slice ua ps'.length uc) := (hb5.cell (p := ⟨w2.heap.size, 1, none⟩) (by (first | (with_reducible assumption) | omega | (simp only [World.size_alloc, World.size_setCell, World.size_drew, World.heap_drewN] <;> omega) | (simp <;> omega)))).trans (by (first | (with_reducible assumption) | ((try simp (disch := first | omega | (simp only [World.size_alloc, World.size_setCell, World.size_drew, World.heap_drewN] <;> omega) | fail) only [World.cell?_alloc_past, World.cell?_alloc_at, World.frozen?_alloc_past, World.frozen?_alloc_at, World.frozen?_setCell, World.cell?_drew, World.frozen?_drew]) <;> first | (with_reducible assumption) | rfl)))
            replace f_x1 : w5.frozen? ⟨w2.heap.size, 1, none⟩ = false := (hb5.frozen (p := ⟨w2.heap.size, 1, none⟩) (by (first | (with_reducible assumption) | omega | (simp only [World.size_alloc, World.size_setCell, World.size_drew, World.heap_drewN] <;> omega) | (simp <;> omega)))).trans (by (first | (with_reducible assumption) | ((try simp (disch := first | omega | (simp only [World.size_alloc, World.size_setCell, World.size_drew, World.heap_drewN] <;> omega) | fail) only [World.cell?_alloc_past, World.cell?_alloc_at, World.frozen?_alloc_past, World.frozen?_alloc_at, World.frozen?_setCell, World.cell?_drew, World.frozen?_drew]) <;> first | (with_reducible assumption) | rfl)))
            replace z_x : w2.heap.size < w5.heap.size := by omega
            replace c_l0 : w5.cell? ⟨w2.heap.size + 1, 0, none⟩ = some (.int .i64 n) := (hb5.cell (p := ⟨w2.heap.size + 1, 0, none⟩) (by (first | (with_reducible assumption) | omega | (simp only [World.size_alloc, World.size_setCell, World.size_drew, World.heap_drewN] <;> omega) | (simp <;> omega)))).trans (by (first | (with_reducible assumption) | ((try simp (disch := first | omega | (simp only [World.size_alloc, World.size_setCell, World.size_drew, World.heap_drewN] <;> omega) | fail) only [World.cell?_alloc_past, World.cell?_alloc_at, World.frozen?_alloc_past, World.frozen?_alloc_at, World.frozen?_setCell, World.cell?_drew, World.frozen?_drew]) <;> first | (with_reducible assumption) | rfl)))
            replace f_l0 : w5.frozen? ⟨w2.heap.size + 1, 0, none⟩ = false := (hb5.frozen (p := ⟨w2.heap.size + 1, 0, none⟩) (by (first | (with_reducible assumption) | omega | (simp only [World.size_alloc, World.size_setCell, World.size_drew, World.heap_drewN] <;> omega) | (simp <;> omega)))).trans (by (first | (with_reducible assumption) | ((try simp (disch := first | omega | (simp only [World.size_alloc, World.size_setCell, World.size_drew, World.heap_drewN] <;> omega) | fail) only [World.cell?_alloc_past, World.cell?_alloc_at, World.frozen?_alloc_past, World.frozen?_alloc_at, World.frozen?_setCell, World.cell?_drew, World.frozen?_drew]) <;> first | (with_reducible assumption) | rfl)))
            replace c_l1 : w5.cell? ⟨w2.heap.size + 1, 1, none⟩ = some (.int .i64 g) := (hb5.cell (p := ⟨w2.heap.size + 1, 1, none⟩) (by (first | (with_reducible assumption) | omega | (simp only [World.size_alloc, World.size_setCell, World.size_drew, World.heap_drewN] <;> omega) | (simp <;> omega)))).trans (by (first | (with_reducible assumption) | ((try simp (disch := first | omega | (simp only [World.size_alloc, World.size_setCell, World.size_drew, World.heap_drewN] <;> omega) | fail) only [World.cell?_alloc_past, World.cell?_alloc_at, World.frozen?_alloc_past, World.frozen?_alloc_at, World.frozen?_setCell, World.cell?_drew, World.frozen?_drew]) <;> first | (with_reducible assumption) | rfl)))
            replace f_l1 : w5.frozen? ⟨w2.heap.size + 1, 1, none⟩ = false := (hb5.frozen (p := ⟨w2.heap.size + 1, 1, none⟩) (by (first | (with_reducible assumption) | omega | (simp only [World.size_alloc, World.size_setCell, World.size_drew, World.heap_drewN] <;> omega) | (simp <;> omega)))).trans (by (first | (with_reducible assumption) | ((try simp (disch := first | omega | (simp only [World.size_alloc, World.size_setCell, World.size_drew, World.heap_drewN] <;> omega) | fail) only [World.cell?_alloc_past, World.cell?_alloc_at, World.frozen?_alloc_past, World.frozen?_alloc_at, World.frozen?_setCell, World.cell?_drew, World.frozen?_drew]) <;> first | (with_reducible assumption) | rfl)))
            replace z_l : w2.heap.size + 1 < w5.heap.size := by omega
            replace c_h0 : w5.cell? ⟨w.heap.size + 1, 0, none⟩ = some (.int .i64 m) := (hb5.cell (p := ⟨w.heap.size + 1, 0, none⟩) (by (first | (with_reducible assumption) | omega | (simp only [World.size_alloc, World.size_setCell, World.size_drew, World.heap_drewN] <;> omega) | (simp <;> omega)))).trans (by (first | (with_reducible assumption) | ((try simp (disch := first | omega | (simp only [World.size_alloc, World.size_setCell, World.size_drew, World.heap_drewN] <;> omega) | fail) only [World.cell?_alloc_past, World.cell?_alloc_at, World.frozen?_alloc_past, World.frozen?_alloc_at, World.frozen?_setCell, World.cell?_drew, World.frozen?_drew]) <;> first | (with_reducible assumption) | rfl)))
            replace c_h1 : w5.cell? ⟨w.heap.size + 1, 1, none⟩ = some (.int .i64 h) := (hb5.cell (p := ⟨w.heap.size + 1, 1, none⟩) (by (first | (with_reducible assumption) | omega | (simp only [World.size_alloc, World.size_setCell, World.size_drew, World.heap_drewN] <;> omega) | (simp <;> omega)))).trans (by (first | (with_reducible assumption) | ((try simp (disch := first | omega | (simp only [World.size_alloc, World.size_setCell, World.size_drew, World.heap_drewN] <;> omega) | fail) only [World.cell?_alloc_past, World.cell?_alloc_at, World.frozen?_alloc_past, World.frozen?_alloc_at, World.frozen?_setCell, World.cell?_drew, World.frozen?_drew]) <;> first | (with_reducible assumption) | rfl)))
            replace z_h : w.heap.size + 1 < w5.heap.size := by omega
            have hb35 : Below wr.heap.size wr w5 := hb34.trans (hb5.mono hb34.size)
            clear hov hou hne hiv hiu fv fu hc4 hbl4 hb34 hb5
            go_wp2_with fail
            refine (LY.out _ _ _ _ _ (HIV.out.below ((Below.refl _ _).alloc (Nat.le_refl _) _)) (HIU.out.below ((Below.refl _ _).alloc (Nat.le_refl _) _))).mono ?_
            rintro e w6 ⟨rfl, hb6⟩
            have hz_w6 := hb6.size
            try simp only [World.size_alloc, World.size_setCell] at hz_w6
            replace c_x0 : w6.cell? ⟨w2.heap.size, 0, none⟩ = some (.slice va gs'.length vc) := (hb6.cell (p := ⟨w2.heap.size, 0, none⟩) (by (first | (with_reducible assumption) | omega | (simp only [World.size_alloc, World.size_setCell, World.size_drew, World.heap_drewN] <;> omega) | (simp <;> omega)))).trans (by (first | (with_reducible assumption) | ((try simp (disch := first | omega | (simp only [World.size_alloc, World.size_setCell, World.size_drew, World.heap_drewN] <;> omega) | fail) only [World.cell?_alloc_past, World.cell?_alloc_at, World.frozen?_alloc_past, World.frozen?_alloc_at, World.frozen?_setCell, World.cell?_drew, World.frozen?_drew]) <;> first | (with_reducible assumption) | rfl)))
            replace f_x0 : w6.frozen? ⟨w2.heap.size, 0, none⟩ = false := (hb6.frozen (p := ⟨w2.heap.size, 0, none⟩) (by (first | (with_reducible assumption) | omega | (simp only [World.size_alloc, World.size_setCell, World.size_drew, World.heap_drewN] <;> omega) | (simp <;> omega)))).trans (by (first | (with_reducible assumption) | ((try simp (disch := first | omega | (simp only [World.size_alloc, World.size_setCell, World.size_drew, World.heap_drewN] <;> omega) | fail) only [World.cell?_alloc_past, World.cell?_alloc_at, World.frozen?_alloc_past, World.frozen?_alloc_at, World.frozen?_setCell, World.cell?_drew, World.frozen?_drew]) <;> first | (with_reducible assumption) | rfl)))
            replace c_x1 : w6.cell? ⟨w2.heap.size, 1, none⟩ = some (.slice ua ps'.length uc) := (hb6.cell (p := ⟨w2.heap.size, 1, none⟩) (by (first | (with_reducible assumption) | omega | (simp only [World.size_alloc, World.size_setCell, World.size_drew, World.heap_drewN] <;> omega) | (simp <;> omega)))).trans (by (first | (with_reducible assumption) | ((try simp (disch := first | omega | (simp only [World.size_alloc, World.size_setCell, World.size_drew, World.heap_drewN] <;> omega) | fail) only [World.cell?_alloc_past, World.cell?_alloc_at, World.frozen?_alloc_past, World.frozen?_alloc_at, World.frozen?_setCell, World.cell?_drew, World.frozen?_drew]) <;> first | (with_reducible assumption) | rfl)))
            replace f_x1 : w6.frozen? ⟨w2.heap.size, 1, none⟩ = false := (hb6.frozen (p := ⟨w2.heap.size, 1, none⟩) (by (first | (with_reducible assumption) | omega | (simp only [World.size_alloc, World.size_setCell, World.size_drew, World.heap_drewN] <;> omega) | (simp <;> omega)))).trans (by (first | (with_reducible assumption) | ((try simp (disch := first | omega | (simp only [World.size_alloc, World.size_setCell, World.size_drew, World.heap_drewN] <;> omega) | fail) only [World.cell?_alloc_past, World.cell?_alloc_at, World.frozen?_alloc_past, World.frozen?_alloc_at, World.frozen?_setCell, World.cell?_drew, World.frozen?_drew]) <;> first | (with_reducible assumption) | rfl)))
            replace z_x : w2.heap.size < w6.heap.size := by omega
            replace c_l0 : w6.cell? ⟨w2.heap.size + 1, 0, none⟩ = some (.int .i64 n) := (hb6.cell (p := ⟨w2.heap.size + 1, 0, none⟩) (by (first | (with_reducible assumption) | omega | (simp only [World.size_alloc, World.size_setCell, World.size_drew, World.heap_drewN] <;> omega) | (simp <;> omega)))).trans (by (first | (with_reducible assumption) | ((try simp (disch := first | omega | (simp only [World.size_alloc, World.size_setCell, World.size_drew, World.heap_drewN] <;> omega) | fail) only [World.cell?_alloc_past, World.cell?_alloc_at, World.frozen?_alloc_past, World.frozen?_alloc_at, World.frozen?_setCell, World.cell?_drew, World.frozen?_drew]) <;> first | (with_reducible assumption) | rfl)))
            replace f_l0 : w6.frozen? ⟨w2.heap.size + 1, 0, none⟩ = false := (hb6.frozen (p := ⟨w2.heap.size + 1, 0, none⟩) (by (first | (with_reducible assumption) | omega | (simp only [World.size_alloc, World.size_setCell, World.size_drew, World.heap_drewN] <;> omega) | (simp <;> omega)))).trans (by (first | (with_reducible assumption) | ((try simp (disch := first | omega | (simp only [World.size_alloc, World.size_setCell, World.size_drew, World.heap_drewN] <;> omega) | fail) only [World.cell?_alloc_past, World.cell?_alloc_at, World.frozen?_alloc_past, World.frozen?_alloc_at, World.frozen?_setCell, World.cell?_drew, World.frozen?_drew]) <;> first | (with_reducible assumption) | rfl)))
            replace c_l1 : w6.cell? ⟨w2.heap.size + 1, 1, none⟩ = some (.int .i64 g) := (hb6.cell (p := ⟨w2.heap.size + 1, 1, none⟩) (by (first | (with_reducible assumption) | omega | (simp only [World.size_alloc, World.size_setCell, World.size_drew, World.heap_drewN] <;> omega) | (simp <;> omega)))).trans (by (first | (with_reducible assumption) | ((try simp (disch := first | omega | (simp only [World.size_alloc, World.size_setCell, World.size_drew, World.heap_drewN] <;> omega) | fail) only [World.cell?_alloc_past, World.cell?_alloc_at, World.frozen?_alloc_past, World.frozen?_alloc_at, World.frozen?_setCell, World.cell?_drew, World.frozen?_drew]) <;> first | (with_reducible assumption) | rfl)))
            replace f_l1 : w6.frozen? ⟨w2.heap.size + 1, 1, none⟩ = false := (hb6.frozen (p := ⟨w2.heap.size + 1, 1, none⟩) (by (first | (with_reducible assumption) | omega | (simp only [World.size_alloc, World.size_setCell, World.size_drew, World.heap_drewN] <;> omega) | (simp <;> omega)))).trans (by (first | (with_reducible assumption) | ((try simp (disch := first | omega | (simp only [World.size_alloc, World.size_setCell, World.size_drew, World.heap_drewN] <;> omega) | fail) only [World.cell?_alloc_past, World.cell?_alloc_at, World.frozen?_alloc_past, World.frozen?_alloc_at, World.frozen?_setCell, World.cell?_drew, World.frozen?_drew]) <;> first | (with_reducible assumption) | rfl)))
            replace z_l : w2.heap.size + 1 < w6.heap.size := by omega
            replace c_h0 : w6.cell? ⟨w.heap.size + 1, 0, none⟩ = some (.int .i64 m) := (hb6.cell (p := ⟨w.heap.size + 1, 0, none⟩) (by (first | (with_reducible assumption) | omega | (simp only [World.size_alloc, World.size_setCell, World.size_drew, World.heap_drewN] <;> omega) | (simp <;> omega)))).trans (by (first | (with_reducible assumption) | ((try simp (disch := first | omega | (simp only [World.size_alloc, World.size_setCell, World.size_drew, World.heap_drewN] <;> omega) | fail) only [World.cell?_alloc_past, World.cell?_alloc_at, World.frozen?_alloc_past, World.frozen?_alloc_at, World.frozen?_setCell, World.cell?_drew, World.frozen?_drew]) <;> first | (with_reducible assumption) | rfl)))
            replace c_h1 : w6.cell? ⟨w.heap.size + 1, 1, none⟩ = some (.int .i64 h) := (hb6.cell (p := ⟨w.heap.size + 1, 1, none⟩) (by (first | (with_reducible assumption) | omega | (simp only [World.size_alloc, World.size_setCell, World.size_drew, World.heap_drewN] <;> omega) | (simp <;> omega)))).trans (by (first | (with_reducible assumption) | ((try simp (disch := first | omega | (simp only [World.size_alloc, World.size_setCell, World.size_drew, World.heap_drewN] <;> omega) | fail) only [World.cell?_alloc_past, World.cell?_alloc_at, World.frozen?_alloc_past, World.frozen?_alloc_at, World.frozen?_setCell, World.cell?_drew, World.frozen?_drew]) <;> first | (with_reducible assumption) | rfl)))
            replace z_h : w.heap.size + 1 < w6.heap.size := by omega
            have c_y0 : w6.cell? ⟨w5.heap.size, 0, none⟩ = some (.slice vb G1.length vd) := (hb6.cell (p := ⟨w5.heap.size, 0, none⟩) (by (first | (with_reducible assumption) | omega | (simp only [World.size_alloc, World.size_setCell, World.size_drew, World.heap_drewN] <;> omega) | (simp <;> omega)))).trans (by (first | (with_reducible assumption) | ((try simp (disch := first | omega | (simp only [World.size_alloc, World.size_setCell, World.size_drew, World.heap_drewN] <;> omega) | fail) only [World.cell?_alloc_past, World.cell?_alloc_at, World.frozen?_alloc_past, World.frozen?_alloc_at, World.frozen?_setCell, World.cell?_drew, World.frozen?_drew]) <;> first | (with_reducible assumption) | rfl)))
            have c_y1 : w6.cell? ⟨w5.heap.size, 1, none⟩ = some (.slice ub P1.length ud) := (hb6.cell (p := ⟨w5.heap.size, 1, none⟩) (by (first | (with_reducible assumption) | omega | (simp only [World.size_alloc, World.size_setCell, World.size_drew, World.heap_drewN] <;> omega) | (simp <;> omega)))).trans (by (first | (with_reducible assumption) | ((try simp (disch := first | omega | (simp only [World.size_alloc, World.size_setCell, World.size_drew, World.heap_drewN] <;> omega) | fail) only [World.cell?_alloc_past, World.cell?_alloc_at, World.frozen?_alloc_past, World.frozen?_alloc_at, World.frozen?_setCell, World.cell?_drew, World.frozen?_drew]) <;> first | (with_reducible assumption) | rfl)))
            have z_y : w5.heap.size < w6.heap.size := by omega
            have hb56 : Below w5.heap.size w5 w6 := ((Below.refl _ _).alloc (Nat.le_refl _) _).trans (hb6.mono (by simp))
            go_wp2
            go_roundg (gk - 1)
            case measure => omega
            case rel =>
              have h36 : Below wr.heap.size wr w6 := hb35.trans (hb56.mono hb35.size)
              refine ⟨k + 1, G1, P1, vb, ub, vd, ud, false, n, g, by omega, by go_num, rfl, Lib.hid ?_⟩
              exact HI.out.over h36 (HIV.out.below hb56) (HIU.out.below hb56) (fun x hx => by have := (HFV.out x hx).1; omega) (fun x hx => by have := (HFU.out x hx).1; omega) Q.out.1 Q.out.2.1 q4 (fun h => by cases h)
      · have LO := Lib.hid LO
        have hBr := HI.out.bel
        go_wp2_with fail
        refine (LO.out _ (Below.refl _ _)).mono ?_
        rintro e w3 ⟨rfl, hb3⟩
        go_wp2
        go_ret
        exact ⟨rfl, hBr.trans (hb3.mono hBr.size)⟩
  · have hsp : (may gs ps = false) ∨ (may gs ps = true ∧ isH gs ps m h = false) := by
      cases h1 : may gs ps with
      | false => left; rfl
      | true =>
        right
        cases h2 : isH gs ps m h with
        | false => exact ⟨rfl, rfl⟩
        | true => exact absurd ⟨h1, h2⟩ hok
    obtain ⟨E, hE, hDP⟩ : ∃ E : Int, (E != 0) = true ∧ ∀ w', Below w.heap.size w w' → Calls Try.prog 21 #[tabV ga gs.length gc aa ps.length ac, .agg #[.int .i64 m, .int .i64 h]] w' (TabRes w' [] [] E) := by
      rcases hsp with h1 | ⟨h1, h2⟩
      · exact ⟨8, by decide, fun w' hb => by have := DP w' hb; rwa [dropR_bad h1] at this⟩
      · exact ⟨140, by decide, fun w' hb => by have := DP w' hb; rwa [dropR_not h1 h2] at this⟩
    have HDP := Lib.hid hDP
    clear hok hsp hDP DP hg hp hx
    go_enter Try.func4, Try.ntmps4
    go_wp2_with fail
    refine (AL.out _).mono ?_
    rintro e w1 ⟨rfl, hb1⟩
    have hz_w1 := hb1.size
    try simp only [World.size_alloc, World.size_setCell] at hz_w1
    have c_t0 : w1.cell? ⟨w.heap.size, 0, none⟩ = some (.slice ga gs.length gc) := (hb1.cell (p := ⟨w.heap.size, 0, none⟩) (by (first | (with_reducible assumption) | omega | (simp only [World.size_alloc, World.size_setCell, World.size_drew, World.heap_drewN] <;> omega) | (simp <;> omega)))).trans (by (first | (with_reducible assumption) | ((try simp (disch := first | omega | (simp only [World.size_alloc, World.size_setCell, World.size_drew, World.heap_drewN] <;> omega) | fail) only [World.cell?_alloc_past, World.cell?_alloc_at, World.frozen?_alloc_past, World.frozen?_alloc_at, World.frozen?_setCell, World.cell?_drew, World.frozen?_drew]) <;> first | (with_reducible assumption) | rfl)))
    have c_t1 : w1.cell? ⟨w.heap.size, 1, none⟩ = some (.slice aa ps.length ac) := (hb1.cell (p := ⟨w.heap.size, 1, none⟩) (by (first | (with_reducible assumption) | omega | (simp only [World.size_alloc, World.size_setCell, World.size_drew, World.heap_drewN] <;> omega) | (simp <;> omega)))).trans (by (first | (with_reducible assumption) | ((try simp (disch := first | omega | (simp only [World.size_alloc, World.size_setCell, World.size_drew, World.heap_drewN] <;> omega) | fail) only [World.cell?_alloc_past, World.cell?_alloc_at, World.frozen?_alloc_past, World.frozen?_alloc_at, World.frozen?_setCell, World.cell?_drew, World.frozen?_drew]) <;> first | (with_reducible assumption) | rfl)))
    have z_t : w.heap.size < w1.heap.size := by omega
    have c_h0 : w1.cell? ⟨w.heap.size + 1, 0, none⟩ = some (.int .i64 m) := (hb1.cell (p := ⟨w.heap.size + 1, 0, none⟩) (by (first | (with_reducible assumption) | omega | (simp only [World.size_alloc, World.size_setCell, World.size_drew, World.heap_drewN] <;> omega) | (simp <;> omega)))).trans (by (first | (with_reducible assumption) | ((try simp (disch := first | omega | (simp only [World.size_alloc, World.size_setCell, World.size_drew, World.heap_drewN] <;> omega) | fail) only [World.cell?_alloc_past, World.cell?_alloc_at, World.frozen?_alloc_past, World.frozen?_alloc_at, World.frozen?_setCell, World.cell?_drew, World.frozen?_drew]) <;> first | (with_reducible assumption) | rfl)))
    have c_h1 : w1.cell? ⟨w.heap.size + 1, 1, none⟩ = some (.int .i64 h) := (hb1.cell (p := ⟨w.heap.size + 1, 1, none⟩) (by (first | (with_reducible assumption) | omega | (simp only [World.size_alloc, World.size_setCell, World.size_drew, World.heap_drewN] <;> omega) | (simp <;> omega)))).trans (by (first | (with_reducible assumption) | ((try simp (disch := first | omega | (simp only [World.size_alloc, World.size_setCell, World.size_drew, World.heap_drewN] <;> omega) | fail) only [World.cell?_alloc_past, World.cell?_alloc_at, World.frozen?_alloc_past, World.frozen?_alloc_at, World.frozen?_setCell, World.cell?_drew, World.frozen?_drew]) <;> first | (with_reducible assumption) | rfl)))
    have z_h : w.heap.size + 1 < w1.heap.size := by omega
    go_wp2_with fail
    refine (HDP.out _ (by (repeat (first | (with_reducible exact Below.refl _ _) | (with_reducible assumption) | (with_reducible exact Hid.out (by with_reducible assumption)) | (with_reducible refine Below.alloc ?_ ?_ _) | (with_reducible refine Below.setCell ?_ ?_ _) | (with_reducible refine below_drewN ?_ _) | (with_reducible refine Below.drew ?_) | (with_reducible refine below_via (by with_reducible assumption) ?_ ?_) | (first | (with_reducible assumption) | omega | (simp only [World.size_alloc, World.size_setCell, World.size_drew, World.heap_drewN] <;> omega) | (simp <;> omega)))))).mono ?_
    rintro e w2 ⟨v, u, rfl, hov, hou, hne, hb2⟩
    have hz_w2 := hb2.size
    try simp only [World.size_alloc, World.size_setCell] at hz_w2
    replace c_t0 : w2.cell? ⟨w.heap.size, 0, none⟩ = some (.slice ga gs.length gc) := (hb2.cell (p := ⟨w.heap.size, 0, none⟩) (by (first | (with_reducible assumption) | omega | (simp only [World.size_alloc, World.size_setCell, World.size_drew, World.heap_drewN] <;> omega) | (simp <;> omega)))).trans (by (first | (with_reducible assumption) | ((try simp (disch := first | omega | (simp only [World.size_alloc, World.size_setCell, World.size_drew, World.heap_drewN] <;> omega) | fail) only [World.cell?_alloc_past, World.cell?_alloc_at, World.frozen?_alloc_past, World.frozen?_alloc_at, World.frozen?_setCell, World.cell?_drew, World.frozen?_drew]) <;> first | (with_reducible assumption) | rfl)))
    replace c_t1 : w2.cell? ⟨w.heap.size, 1, none⟩ = some (.slice aa ps.length ac) := (hb2.cell (p := ⟨w.heap.size, 1, none⟩) (by (first | (with_reducible assumption) | omega | (simp only [World.size_alloc, World.size_setCell, World.size_drew, World.heap_drewN] <;> omega) | (simp <;> omega)))).trans (by (first | (with_reducible assumption) | ((try simp (disch := first | omega | (simp only [World.size_alloc, World.size_setCell, World.size_drew, World.heap_drewN] <;> omega) | fail) only [World.cell?_alloc_past, World.cell?_alloc_at, World.frozen?_alloc_past, World.frozen?_alloc_at, World.frozen?_setCell, World.cell?_drew, World.frozen?_drew]) <;> first | (with_reducible assumption) | rfl)))
    replace z_t : w.heap.size < w2.heap.size := by omega
    replace c_h0 : w2.cell? ⟨w.heap.size + 1, 0, none⟩ = some (.int .i64 m) := (hb2.cell (p := ⟨w.heap.size + 1, 0, none⟩) (by (first | (with_reducible assumption) | omega | (simp only [World.size_alloc, World.size_setCell, World.size_drew, World.heap_drewN] <;> omega) | (simp <;> omega)))).trans (by (first | (with_reducible assumption) | ((try simp (disch := first | omega | (simp only [World.size_alloc, World.size_setCell, World.size_drew, World.heap_drewN] <;> omega) | fail) only [World.cell?_alloc_past, World.cell?_alloc_at, World.frozen?_alloc_past, World.frozen?_alloc_at, World.frozen?_setCell, World.cell?_drew, World.frozen?_drew]) <;> first | (with_reducible assumption) | rfl)))
    replace c_h1 : w2.cell? ⟨w.heap.size + 1, 1, none⟩ = some (.int .i64 h) := (hb2.cell (p := ⟨w.heap.size + 1, 1, none⟩) (by (first | (with_reducible assumption) | omega | (simp only [World.size_alloc, World.size_setCell, World.size_drew, World.heap_drewN] <;> omega) | (simp <;> omega)))).trans (by (first | (with_reducible assumption) | ((try simp (disch := first | omega | (simp only [World.size_alloc, World.size_setCell, World.size_drew, World.heap_drewN] <;> omega) | fail) only [World.cell?_alloc_past, World.cell?_alloc_at, World.frozen?_alloc_past, World.frozen?_alloc_at, World.frozen?_setCell, World.cell?_drew, World.frozen?_drew]) <;> first | (with_reducible assumption) | rfl)))
    replace z_h : w.heap.size + 1 < w2.heap.size := by omega
    obtain ⟨v0, c0, rfl, -, -, -⟩ := ints_of_owns hov
    obtain ⟨u0, d0, rfl, -, -, -⟩ := ints_of_owns hou
    have hB2 : Below w.heap.size w w2 := by (repeat (first | (with_reducible exact Below.refl _ _) | (with_reducible assumption) | (with_reducible exact Hid.out (by with_reducible assumption)) | (with_reducible refine Below.alloc ?_ ?_ _) | (with_reducible refine Below.setCell ?_ ?_ _) | (with_reducible refine below_drewN ?_ _) | (with_reducible refine Below.drew ?_) | (with_reducible refine below_via (by with_reducible assumption) ?_ ?_) | (first | (with_reducible assumption) | omega | (simp only [World.size_alloc, World.size_setCell, World.size_drew, World.heap_drewN] <;> omega) | (simp <;> omega))))
    clear hov hou hne
    go_wp2
    go_ret
    exact ⟨rfl, by (repeat (first | (with_reducible exact Below.refl _ _) | (with_reducible assumption) | (with_reducible exact Hid.out (by with_reducible assumption)) | (with_reducible refine Below.alloc ?_ ?_ _) | (with_reducible refine Below.setCell ?_ ?_ _) | (with_reducible refine below_drewN ?_ _) | (with_reducible refine Below.drew ?_) | (with_reducible refine below_via (by with_reducible assumption) ?_ ?_) | (first | (with_reducible assumption) | omega | (simp only [World.size_alloc, World.size_setCell, World.size_drew, World.heap_drewN] <;> omega) | (simp <;> omega))))⟩

theorem HandleGone_walk (w : World) (ga aa : Option Addr) (gc ac : Nat) (gs ps : List Int) (hg : IsInts w ga gs) (hp : IsInts w aa ps) (hgn : ga = none → gc = 0) (han : aa = none → ac = 0) (hlg : gs.length ≤ maxLen) (hla : ps.length ≤ maxLen)
    (m h : Int) (hn2 : (Lit.int .i64 m).wf = true) (hgw2 : (Lit.int .i64 h).wf = true) (la : Option Addr) (xs : List Int) (lc : Nat) (hx : IsInts w la xs) (hln : la = none → lc = 0) (hlx : xs.length ≤ maxLen) (hwx : ∀ n ∈ xs, (Lit.int .i64 n).wf = true) :
    Calls Try.prog 4 #[tabV ga gs.length gc aa ps.length ac, .agg #[.int .i64 m, .int .i64 h], .slice la xs.length lc] w fun e w' => e = .returned (.bool true) ∧ Below w.heap.size w w' := by
  unfold maxLen at hlg hla hlx
  by_cases h1 : gs.length ≤ 300
  · by_cases h2 : ps.length ≤ 300
    · by_cases h3 : xs.length ≤ 40
      · exact HandleGone_in ga aa la gc ac lc gs ps xs m h w hg hp hx h1 h2 h3
      · have AL := Lib.hid alive_ok
        clear hg hp hx hgn han hn2 hgw2 hln hwx
        go_enter Try.func4, Try.ntmps4
        go_wp2_with fail
        refine (AL.out _).mono ?_
        rintro e w1 ⟨rfl, hb1⟩
        have hz_w1 := hb1.size
        try simp only [World.size_alloc, World.size_setCell] at hz_w1
        have c_t0 : w1.cell? ⟨w.heap.size, 0, none⟩ = some (.slice ga gs.length gc) := (hb1.cell (p := ⟨w.heap.size, 0, none⟩) (by (first | (with_reducible assumption) | omega | (simp only [World.size_alloc, World.size_setCell, World.size_drew, World.heap_drewN] <;> omega) | (simp <;> omega)))).trans (by (first | (with_reducible assumption) | ((try simp (disch := first | omega | (simp only [World.size_alloc, World.size_setCell, World.size_drew, World.heap_drewN] <;> omega) | fail) only [World.cell?_alloc_past, World.cell?_alloc_at, World.frozen?_alloc_past, World.frozen?_alloc_at, World.frozen?_setCell, World.cell?_drew, World.frozen?_drew]) <;> first | (with_reducible assumption) | rfl)))
        have c_t1 : w1.cell? ⟨w.heap.size, 1, none⟩ = some (.slice aa ps.length ac) := (hb1.cell (p := ⟨w.heap.size, 1, none⟩) (by (first | (with_reducible assumption) | omega | (simp only [World.size_alloc, World.size_setCell, World.size_drew, World.heap_drewN] <;> omega) | (simp <;> omega)))).trans (by (first | (with_reducible assumption) | ((try simp (disch := first | omega | (simp only [World.size_alloc, World.size_setCell, World.size_drew, World.heap_drewN] <;> omega) | fail) only [World.cell?_alloc_past, World.cell?_alloc_at, World.frozen?_alloc_past, World.frozen?_alloc_at, World.frozen?_setCell, World.cell?_drew, World.frozen?_drew]) <;> first | (with_reducible assumption) | rfl)))
        have z_t : w.heap.size < w1.heap.size := by omega
        go_wp2
        go_ret
        exact ⟨rfl, by (repeat (first | (with_reducible exact Below.refl _ _) | (with_reducible assumption) | (with_reducible exact Hid.out (by with_reducible assumption)) | (with_reducible refine Below.alloc ?_ ?_ _) | (with_reducible refine Below.setCell ?_ ?_ _) | (with_reducible refine below_drewN ?_ _) | (with_reducible refine Below.drew ?_) | (with_reducible refine below_via (by with_reducible assumption) ?_ ?_) | (first | (with_reducible assumption) | omega | (simp only [World.size_alloc, World.size_setCell, World.size_drew, World.heap_drewN] <;> omega) | (simp <;> omega))))⟩
    · have AL := Lib.hid alive_ok
      clear hg hp hx hgn han hn2 hgw2 hln hwx
      go_enter Try.func4, Try.ntmps4
      go_wp2_with fail
      refine (AL.out _).mono ?_
      rintro e w1 ⟨rfl, hb1⟩
      have hz_w1 := hb1.size
      try simp only [World.size_alloc, World.size_setCell] at hz_w1
      have c_t0 : w1.cell? ⟨w.heap.size, 0, none⟩ = some (.slice ga gs.length gc) := (hb1.cell (p := ⟨w.heap.size, 0, none⟩) (by (first | (with_reducible assumption) | omega | (simp only [World.size_alloc, World.size_setCell, World.size_drew, World.heap_drewN] <;> omega) | (simp <;> omega)))).trans (by (first | (with_reducible assumption) | ((try simp (disch := first | omega | (simp only [World.size_alloc, World.size_setCell, World.size_drew, World.heap_drewN] <;> omega) | fail) only [World.cell?_alloc_past, World.cell?_alloc_at, World.frozen?_alloc_past, World.frozen?_alloc_at, World.frozen?_setCell, World.cell?_drew, World.frozen?_drew]) <;> first | (with_reducible assumption) | rfl)))
      have c_t1 : w1.cell? ⟨w.heap.size, 1, none⟩ = some (.slice aa ps.length ac) := (hb1.cell (p := ⟨w.heap.size, 1, none⟩) (by (first | (with_reducible assumption) | omega | (simp only [World.size_alloc, World.size_setCell, World.size_drew, World.heap_drewN] <;> omega) | (simp <;> omega)))).trans (by (first | (with_reducible assumption) | ((try simp (disch := first | omega | (simp only [World.size_alloc, World.size_setCell, World.size_drew, World.heap_drewN] <;> omega) | fail) only [World.cell?_alloc_past, World.cell?_alloc_at, World.frozen?_alloc_past, World.frozen?_alloc_at, World.frozen?_setCell, World.cell?_drew, World.frozen?_drew]) <;> first | (with_reducible assumption) | rfl)))
      have z_t : w.heap.size < w1.heap.size := by omega
      go_wp2
      go_ret
      exact ⟨rfl, by (repeat (first | (with_reducible exact Below.refl _ _) | (with_reducible assumption) | (with_reducible exact Hid.out (by with_reducible assumption)) | (with_reducible refine Below.alloc ?_ ?_ _) | (with_reducible refine Below.setCell ?_ ?_ _) | (with_reducible refine below_drewN ?_ _) | (with_reducible refine Below.drew ?_) | (with_reducible refine below_via (by with_reducible assumption) ?_ ?_) | (first | (with_reducible assumption) | omega | (simp only [World.size_alloc, World.size_setCell, World.size_drew, World.heap_drewN] <;> omega) | (simp <;> omega))))⟩
  · have AL := Lib.hid alive_ok
    clear hg hp hx hgn han hn2 hgw2 hln hwx
    go_enter Try.func4, Try.ntmps4
    go_wp2_with fail
    refine (AL.out _).mono ?_
    rintro e w1 ⟨rfl, hb1⟩
    have hz_w1 := hb1.size
    try simp only [World.size_alloc, World.size_setCell] at hz_w1
    have c_t0 : w1.cell? ⟨w.heap.size, 0, none⟩ = some (.slice ga gs.length gc) := (hb1.cell (p := ⟨w.heap.size, 0, none⟩) (by (first | (with_reducible assumption) | omega | (simp only [World.size_alloc, World.size_setCell, World.size_drew, World.heap_drewN] <;> omega) | (simp <;> omega)))).trans (by (first | (with_reducible assumption) | ((try simp (disch := first | omega | (simp only [World.size_alloc, World.size_setCell, World.size_drew, World.heap_drewN] <;> omega) | fail) only [World.cell?_alloc_past, World.cell?_alloc_at, World.frozen?_alloc_past, World.frozen?_alloc_at, World.frozen?_setCell, World.cell?_drew, World.frozen?_drew]) <;> first | (with_reducible assumption) | rfl)))
    have c_t1 : w1.cell? ⟨w.heap.size, 1, none⟩ = some (.slice aa ps.length ac) := (hb1.cell (p := ⟨w.heap.size, 1, none⟩) (by (first | (with_reducible assumption) | omega | (simp only [World.size_alloc, World.size_setCell, World.size_drew, World.heap_drewN] <;> omega) | (simp <;> omega)))).trans (by (first | (with_reducible assumption) | ((try simp (disch := first | omega | (simp only [World.size_alloc, World.size_setCell, World.size_drew, World.heap_drewN] <;> omega) | fail) only [World.cell?_alloc_past, World.cell?_alloc_at, World.frozen?_alloc_past, World.frozen?_alloc_at, World.frozen?_setCell, World.cell?_drew, World.frozen?_drew]) <;> first | (with_reducible assumption) | rfl)))
    have z_t : w.heap.size < w1.heap.size := by omega
    go_wp2
    go_ret
    exact ⟨rfl, by (repeat (first | (with_reducible exact Below.refl _ _) | (with_reducible assumption) | (with_reducible exact Hid.out (by with_reducible assumption)) | (with_reducible refine Below.alloc ?_ ?_ _) | (with_reducible refine Below.setCell ?_ ?_ _) | (with_reducible refine below_drewN ?_ _) | (with_reducible refine Below.drew ?_) | (with_reducible refine below_via (by with_reducible assumption) ?_ ?_) | (first | (with_reducible assumption) | omega | (simp only [World.size_alloc, World.size_setCell, World.size_drew, World.heap_drewN] <;> omega) | (simp <;> omega))))⟩
end Go.Proofs.Ytonmgmhkejbikaa
