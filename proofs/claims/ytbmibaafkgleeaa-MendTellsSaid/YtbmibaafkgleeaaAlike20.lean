/- The walks of shelfmarkref04.Is, shelfmarkref20.Alike, fits, Between, Turned. -/
import Derived.Test.YtbmibaafkgleeaaTurnA
import Derived.Test.YtbmibaafkgleeaaMay04
import Derived.BigRegion
import Derived.Deep.CutRange
import Derived.Lib.QuietBelow
namespace Go.Proofs.Ytbmibaafkgleeaa
open Go.RowKit
set_option linter.unusedVariables false
set_option linter.unusedSimpArgs false

theorem Is04_ok (seg laid : Int) (wa ka va ca : Option Addr) (wc kc vc cc lk lv lc : Nat) (ws : List Int) (hu : U64s ws) (i : Nat) (hi : i / 64 < ws.length) (hi2 : i ≤ 1000000000000) (w : World) (hw : IsRow .u64 w wa ws) :
    Calls Try.prog 103 #[.agg #[.int .i64 seg, .slice wa ws.length wc, .slice ka lk kc, .slice va lv vc, .slice ca lc cc, .int .u64 laid], .int .i64 i] w fun e w' => e = .returned (.bool (bitW ws i)) ∧ Below w.heap.size w w' := by
  have IS := Lib.hid (Is02_ok wa wc ws hu i hi hi2 _ (hw.below ((Below.refl _ w).alloc (Nat.le_refl _) (.cells #[.int .i64 seg, .slice wa ws.length wc, .slice ka lk kc, .slice va lv vc, .slice ca lc cc, .int .u64 laid] 29))))
  have hal : Below w.heap.size w (w.alloc (.cells #[.int .i64 seg, .slice wa ws.length wc, .slice ka lk kc, .slice va lv vc, .slice ca lc cc, .int .u64 laid] 29)) := (Below.refl _ _).alloc (Nat.le_refl _) _
  clear hw
  go_enter Try.func103, Try.ntmps103
  go_wp2_with fail
  refine IS.out.mono ?_
  rintro e w' ⟨rfl, rfl⟩
  go_wp2
  go_ret
  exact ⟨rfl, hal⟩

set_option maxRecDepth 100000 in
set_option maxHeartbeats 4000000 in
theorem Alike20_ok (S M k : Nat) (c d : SlC) (a b : SlA) (w : World) (hc : SlIn w c a) (hd : SlIn w d b) (h4 : 4 ≤ S) (h64 : S ≤ 64) (hSM : S * M ≤ 65536) (hcs : c.seg = S) (hds : d.seg = S) (hck : c.ks.length = S * M) (hdk : d.ks.length = S * M) (hcv : c.vs.length = S * M) (hdv : d.vs.length = S * M) (hcw : c.ws.length = (S * M + 63) / 64) (hdw : d.ws.length = (S * M + 63) / 64) (hk : k < M) :
    Calls Try.prog 71 #[slV c a, slV d b, .int .i64 k] w (AnsB w (.bool (alkB c d S k))) := by
  have hkM : (k + 1) * S ≤ S * M := by rw [Nat.mul_comm S]; exact Nat.mul_le_mul_right _ hk
  have hkS : (k + 1) * S = k * S + S := by rw [Nat.add_mul, Nat.one_mul]
  have hk1 : (k : Int) * (S : Int) = ((k * S : Nat) : Int) := by push_cast; rfl
  have hk2 : ((k : Int) + 1) * (S : Int) = (((k + 1) * S : Nat) : Int) := by push_cast; rfl
  have HALK := Lib.hid (alkB_iff (c := c) (d := d) (S := S) (k := k))
  obtain ⟨R, hR⟩ : ∃ R, alkB c d S k = R := ⟨_, rfl⟩
  rw [hR] at HALK ⊢
  have HC := Lib.hid hc
  have HD := Lib.hid hd
  have HU1 := Lib.hid hc.u
  have HU2 := Lib.hid hd.u
  have hk8 : k ≤ 16384 := by
    have : k * 4 ≤ k * S := Nat.mul_le_mul_left _ (by omega)
    omega
  obtain ⟨p1, hp1⟩ : ∃ p1, k * S = p1 := ⟨_, rfl⟩
  obtain ⟨p2, hp2⟩ : ∃ p2, (k + 1) * S = p2 := ⟨_, rfl⟩
  obtain ⟨SM, hSMe⟩ : ∃ SM, S * M = SM := ⟨_, rfl⟩
  rw [hp1] at hk1 hkS HALK
  rw [hp2] at hk2 hkS hkM HALK
  rw [hSMe] at hSM hck hdk hcv hdv hcw hdw hkM
  have I1 := Lib.hid (fun i (h : i < SM) W (hw : IsRow .u64 W a.wa c.ws) => Is04_ok S c.laid a.wa a.ka a.va a.ca a.wc a.kc a.vc a.cc SM SM c.cs.length c.ws hc.u i (by omega) (by omega) W hw)
  have I2 := Lib.hid (fun i (h : i < SM) W (hw : IsRow .u64 W b.wa d.ws) => Is04_ok S d.laid b.wa b.ka b.va b.ca b.wc b.kc b.vc b.cc SM SM d.cs.length d.ws hd.u i (by omega) (by omega) W hw)
  obtain ⟨lw, hlw⟩ : ∃ n, (SM + 63) / 64 = n := ⟨_, rfl⟩
  rw [hlw] at hcw hdw
  rw [hcw] at I1
  rw [hdw] at I2
  obtain ⟨seg, ws, ks, vs, cs, laid⟩ := c
  obtain ⟨wa, ka, va, ca, wc, kc, vc, cc⟩ := a
  obtain ⟨seg', ws', ks', vs', cs', laid'⟩ := d
  obtain ⟨wa', ka', va', ca', wc', kc', vc', cc'⟩ := b
  dsimp only [slV] at *
  subst hcs hds
  obtain ⟨lc, hlc⟩ : ∃ n, cs.length = n := ⟨_, rfl⟩
  obtain ⟨lc', hlc'⟩ : ∃ n, cs'.length = n := ⟨_, rfl⟩
  rw [hlc] at I1
  rw [hlc'] at I2
  rw [hck, hdk, hcv, hdv, hcw, hdw, hlc, hlc']
  have HL := Lib.hid (And.intro (And.intro hck hdk) (And.intro hcv hdv))
  clear hc hd hck hdk hcv hdv hcw hdw hk hR hp1 hp2 hSMe hlw hlc hlc'
  go_enter Try.func71, Try.ntmps71
  go_wp2
  generalize hwz : ((w.alloc (.cells #[.int .i64 S, .slice wa lw wc, .slice ka SM kc, .slice va SM vc, .slice ca lc cc, .int .u64 laid] 29)).alloc (.cells #[.int .i64 S, .slice wa' lw wc', .slice ka' SM kc', .slice va' SM vc', .slice ca' lc' cc', .int .u64 laid'] 29)) = wz
  have c_s0 : wz.cell? ⟨w.heap.size, 0, none⟩ = some (.int .i64 S) := by rw [← hwz]; (first | (with_reducible assumption) | ((simp only [World.frozen?_setCell, World.frozen?_drew, World.frozen?_drewN]) <;> (with_reducible assumption)) | ((repeat (first | (with_reducible assumption) | (with_reducible refine World.cell?_setCell_same _ _ _ (by with_reducible assumption)) | (rw [World.cell?_setCell_other _ _ _ _ (by intro e; simp at e; done)]) | (with_reducible refine cell_setCell_block ?_ ?_) | (rw [World.cell?_drew]) | (rw [World.cell?_drewN]) | (dsimp only; omega))); done) | (first | (with_reducible assumption) | ((try simp (disch := first | omega | (simp only [szW] <;> omega) | fail) only [ceW]) <;> first | (with_reducible assumption) | rfl)))
  have c_s1 : wz.cell? ⟨w.heap.size, 1, none⟩ = some (.slice wa lw wc) := by rw [← hwz]; (first | (with_reducible assumption) | ((simp only [World.frozen?_setCell, World.frozen?_drew, World.frozen?_drewN]) <;> (with_reducible assumption)) | ((repeat (first | (with_reducible assumption) | (with_reducible refine World.cell?_setCell_same _ _ _ (by with_reducible assumption)) | (rw [World.cell?_setCell_other _ _ _ _ (by intro e; simp at e; done)]) | (with_reducible refine cell_setCell_block ?_ ?_) | (rw [World.cell?_drew]) | (rw [World.cell?_drewN]) | (dsimp only; omega))); done) | (first | (with_reducible assumption) | ((try simp (disch := first | omega | (simp only [szW] <;> omega) | fail) only [ceW]) <;> first | (with_reducible assumption) | rfl)))
  have c_s2 : wz.cell? ⟨w.heap.size, 2, none⟩ = some (.slice ka SM kc) := by rw [← hwz]; (first | (with_reducible assumption) | ((simp only [World.frozen?_setCell, World.frozen?_drew, World.frozen?_drewN]) <;> (with_reducible assumption)) | ((repeat (first | (with_reducible assumption) | (with_reducible refine World.cell?_setCell_same _ _ _ (by with_reducible assumption)) | (rw [World.cell?_setCell_other _ _ _ _ (by intro e; simp at e; done)]) | (with_reducible refine cell_setCell_block ?_ ?_) | (rw [World.cell?_drew]) | (rw [World.cell?_drewN]) | (dsimp only; omega))); done) | (first | (with_reducible assumption) | ((try simp (disch := first | omega | (simp only [szW] <;> omega) | fail) only [ceW]) <;> first | (with_reducible assumption) | rfl)))
  have c_s3 : wz.cell? ⟨w.heap.size, 3, none⟩ = some (.slice va SM vc) := by rw [← hwz]; (first | (with_reducible assumption) | ((simp only [World.frozen?_setCell, World.frozen?_drew, World.frozen?_drewN]) <;> (with_reducible assumption)) | ((repeat (first | (with_reducible assumption) | (with_reducible refine World.cell?_setCell_same _ _ _ (by with_reducible assumption)) | (rw [World.cell?_setCell_other _ _ _ _ (by intro e; simp at e; done)]) | (with_reducible refine cell_setCell_block ?_ ?_) | (rw [World.cell?_drew]) | (rw [World.cell?_drewN]) | (dsimp only; omega))); done) | (first | (with_reducible assumption) | ((try simp (disch := first | omega | (simp only [szW] <;> omega) | fail) only [ceW]) <;> first | (with_reducible assumption) | rfl)))
  have c_s4 : wz.cell? ⟨w.heap.size, 4, none⟩ = some (.slice ca lc cc) := by rw [← hwz]; (first | (with_reducible assumption) | ((simp only [World.frozen?_setCell, World.frozen?_drew, World.frozen?_drewN]) <;> (with_reducible assumption)) | ((repeat (first | (with_reducible assumption) | (with_reducible refine World.cell?_setCell_same _ _ _ (by with_reducible assumption)) | (rw [World.cell?_setCell_other _ _ _ _ (by intro e; simp at e; done)]) | (with_reducible refine cell_setCell_block ?_ ?_) | (rw [World.cell?_drew]) | (rw [World.cell?_drewN]) | (dsimp only; omega))); done) | (first | (with_reducible assumption) | ((try simp (disch := first | omega | (simp only [szW] <;> omega) | fail) only [ceW]) <;> first | (with_reducible assumption) | rfl)))
  have c_s5 : wz.cell? ⟨w.heap.size, 5, none⟩ = some (.int .u64 laid) := by rw [← hwz]; (first | (with_reducible assumption) | ((simp only [World.frozen?_setCell, World.frozen?_drew, World.frozen?_drewN]) <;> (with_reducible assumption)) | ((repeat (first | (with_reducible assumption) | (with_reducible refine World.cell?_setCell_same _ _ _ (by with_reducible assumption)) | (rw [World.cell?_setCell_other _ _ _ _ (by intro e; simp at e; done)]) | (with_reducible refine cell_setCell_block ?_ ?_) | (rw [World.cell?_drew]) | (rw [World.cell?_drewN]) | (dsimp only; omega))); done) | (first | (with_reducible assumption) | ((try simp (disch := first | omega | (simp only [szW] <;> omega) | fail) only [ceW]) <;> first | (with_reducible assumption) | rfl)))
  have z_s : w.heap.size < wz.heap.size := by rw [← hwz]; (first | (with_reducible assumption) | omega | (simp only [szW] <;> omega) | (simp <;> omega))
  have c_t0 : wz.cell? ⟨w.heap.size + 1, 0, none⟩ = some (.int .i64 S) := by rw [← hwz]; (first | (with_reducible assumption) | ((simp only [World.frozen?_setCell, World.frozen?_drew, World.frozen?_drewN]) <;> (with_reducible assumption)) | ((repeat (first | (with_reducible assumption) | (with_reducible refine World.cell?_setCell_same _ _ _ (by with_reducible assumption)) | (rw [World.cell?_setCell_other _ _ _ _ (by intro e; simp at e; done)]) | (with_reducible refine cell_setCell_block ?_ ?_) | (rw [World.cell?_drew]) | (rw [World.cell?_drewN]) | (dsimp only; omega))); done) | (first | (with_reducible assumption) | ((try simp (disch := first | omega | (simp only [szW] <;> omega) | fail) only [ceW]) <;> first | (with_reducible assumption) | rfl)))
  have c_t1 : wz.cell? ⟨w.heap.size + 1, 1, none⟩ = some (.slice wa' lw wc') := by rw [← hwz]; (first | (with_reducible assumption) | ((simp only [World.frozen?_setCell, World.frozen?_drew, World.frozen?_drewN]) <;> (with_reducible assumption)) | ((repeat (first | (with_reducible assumption) | (with_reducible refine World.cell?_setCell_same _ _ _ (by with_reducible assumption)) | (rw [World.cell?_setCell_other _ _ _ _ (by intro e; simp at e; done)]) | (with_reducible refine cell_setCell_block ?_ ?_) | (rw [World.cell?_drew]) | (rw [World.cell?_drewN]) | (dsimp only; omega))); done) | (first | (with_reducible assumption) | ((try simp (disch := first | omega | (simp only [szW] <;> omega) | fail) only [ceW]) <;> first | (with_reducible assumption) | rfl)))
  have c_t2 : wz.cell? ⟨w.heap.size + 1, 2, none⟩ = some (.slice ka' SM kc') := by rw [← hwz]; (first | (with_reducible assumption) | ((simp only [World.frozen?_setCell, World.frozen?_drew, World.frozen?_drewN]) <;> (with_reducible assumption)) | ((repeat (first | (with_reducible assumption) | (with_reducible refine World.cell?_setCell_same _ _ _ (by with_reducible assumption)) | (rw [World.cell?_setCell_other _ _ _ _ (by intro e; simp at e; done)]) | (with_reducible refine cell_setCell_block ?_ ?_) | (rw [World.cell?_drew]) | (rw [World.cell?_drewN]) | (dsimp only; omega))); done) | (first | (with_reducible assumption) | ((try simp (disch := first | omega | (simp only [szW] <;> omega) | fail) only [ceW]) <;> first | (with_reducible assumption) | rfl)))
  have c_t3 : wz.cell? ⟨w.heap.size + 1, 3, none⟩ = some (.slice va' SM vc') := by rw [← hwz]; (first | (with_reducible assumption) | ((simp only [World.frozen?_setCell, World.frozen?_drew, World.frozen?_drewN]) <;> (with_reducible assumption)) | ((repeat (first | (with_reducible assumption) | (with_reducible refine World.cell?_setCell_same _ _ _ (by with_reducible assumption)) | (rw [World.cell?_setCell_other _ _ _ _ (by intro e; simp at e; done)]) | (with_reducible refine cell_setCell_block ?_ ?_) | (rw [World.cell?_drew]) | (rw [World.cell?_drewN]) | (dsimp only; omega))); done) | (first | (with_reducible assumption) | ((try simp (disch := first | omega | (simp only [szW] <;> omega) | fail) only [ceW]) <;> first | (with_reducible assumption) | rfl)))
  have c_t4 : wz.cell? ⟨w.heap.size + 1, 4, none⟩ = some (.slice ca' lc' cc') := by rw [← hwz]; (first | (with_reducible assumption) | ((simp only [World.frozen?_setCell, World.frozen?_drew, World.frozen?_drewN]) <;> (with_reducible assumption)) | ((repeat (first | (with_reducible assumption) | (with_reducible refine World.cell?_setCell_same _ _ _ (by with_reducible assumption)) | (rw [World.cell?_setCell_other _ _ _ _ (by intro e; simp at e; done)]) | (with_reducible refine cell_setCell_block ?_ ?_) | (rw [World.cell?_drew]) | (rw [World.cell?_drewN]) | (dsimp only; omega))); done) | (first | (with_reducible assumption) | ((try simp (disch := first | omega | (simp only [szW] <;> omega) | fail) only [ceW]) <;> first | (with_reducible assumption) | rfl)))
  have c_t5 : wz.cell? ⟨w.heap.size + 1, 5, none⟩ = some (.int .u64 laid') := by rw [← hwz]; (first | (with_reducible assumption) | ((simp only [World.frozen?_setCell, World.frozen?_drew, World.frozen?_drewN]) <;> (with_reducible assumption)) | ((repeat (first | (with_reducible assumption) | (with_reducible refine World.cell?_setCell_same _ _ _ (by with_reducible assumption)) | (rw [World.cell?_setCell_other _ _ _ _ (by intro e; simp at e; done)]) | (with_reducible refine cell_setCell_block ?_ ?_) | (rw [World.cell?_drew]) | (rw [World.cell?_drewN]) | (dsimp only; omega))); done) | (first | (with_reducible assumption) | ((try simp (disch := first | omega | (simp only [szW] <;> omega) | fail) only [ceW]) <;> first | (with_reducible assumption) | rfl)))
  have z_t : w.heap.size + 1 < wz.heap.size := by rw [← hwz]; (first | (with_reducible assumption) | omega | (simp only [szW] <;> omega) | (simp <;> omega))
  have HB0 : Hid (Below w.heap.size w wz) := by rw [← hwz]; exact Lib.hid (((Below.refl _ _).alloc (Nat.le_refl _) _).alloc (by simp) _)
  clear hwz
  have HKS := Lib.hid hkS
  have hp12 : p1 ≤ p2 := by omega
  clear hkS
  go_wp2
  go_loopg [7] (p2 - p1) (fun gk iv wr => ∃ i : Nat, i + gk = p2 ∧ p1 ≤ i ∧ iv = .int .i64 i ∧ Hid (Below wz.heap.size wz wr) ∧ Hid (∀ j, p1 ≤ j → j < i → bitW ws j = bitW ws' j ∧ ks.getD j 0 = ks'.getD j 0 ∧ vs.getD j 0 = vs'.getD j 0))
  case atStart => exact ⟨p1, by omega, Nat.le_refl _, rfl, Lib.hid (Below.refl _ _), Lib.hid fun j h1 h2 => by omega⟩
  case round =>
    obtain ⟨i, hi, hip, rfl, HBr, HE⟩ := hrel
    have hzr := HBr.out.size
    have hz_wr := HBr.out.size
    try simp only [World.size_alloc, World.size_setCell] at hz_wr
    have all_c : wr.cell? ⟨w.heap.size, 0, none⟩ = some (.int .i64 S) ∧ wr.cell? ⟨w.heap.size, 1, none⟩ = some (.slice wa lw wc) ∧ wr.cell? ⟨w.heap.size, 2, none⟩ = some (.slice ka SM kc) ∧ wr.cell? ⟨w.heap.size, 3, none⟩ = some (.slice va SM vc) ∧ wr.cell? ⟨w.heap.size, 4, none⟩ = some (.slice ca lc cc) ∧ wr.cell? ⟨w.heap.size, 5, none⟩ = some (.int .u64 laid) ∧ wr.cell? ⟨w.heap.size + 1, 0, none⟩ = some (.int .i64 S) ∧ wr.cell? ⟨w.heap.size + 1, 1, none⟩ = some (.slice wa' lw wc') ∧ wr.cell? ⟨w.heap.size + 1, 2, none⟩ = some (.slice ka' SM kc') ∧ wr.cell? ⟨w.heap.size + 1, 3, none⟩ = some (.slice va' SM vc') ∧ wr.cell? ⟨w.heap.size + 1, 4, none⟩ = some (.slice ca' lc' cc') ∧ wr.cell? ⟨w.heap.size + 1, 5, none⟩ = some (.int .u64 laid') := by refine ⟨?_, ?_, ?_, ?_, ?_, ?_, ?_, ?_, ?_, ?_, ?_, ?_⟩ <;> (refine (HBr.out.cell ?_).trans ?_ <;> first | (first | (with_reducible assumption) | omega | (simp only [szW] <;> omega) | (simp <;> omega)) | (first | (with_reducible assumption) | ((try simp (disch := first | omega | (simp only [szW] <;> omega) | fail) only [ceW]) <;> first | (with_reducible assumption) | rfl)))
    have all_z : w.heap.size < wr.heap.size ∧ w.heap.size + 1 < wr.heap.size := by refine ⟨?_, ?_⟩ <;> (omega)
    clear c_s0 c_s1 c_s2 c_s3 c_s4 c_s5 c_t0 c_t1 c_t2 c_t3 c_t4 c_t5 z_s z_t
    obtain ⟨c_s0, c_s1, c_s2, c_s3, c_s4, c_s5, c_t0, c_t1, c_t2, c_t3, c_t4, c_t5⟩ := all_c
    try clear all_c
    obtain ⟨z_s, z_t⟩ := all_z
    try clear all_z
    by_cases hlt : i < p2
    · have HI := Lib.hid hi
      clear hi
      have hiS : i < SM := by omega
      have HBA : Hid (Below w.heap.size w wr) := Lib.hid (below_via HBr.out HB0.out HB0.out.size)
      obtain ⟨kb1, ko1, x1, rfl, hx1, d1, -⟩ := (HC.out.k.below HBA.out).get (i := i) (by rw [HL.out.1.1]; exact hiS)
      obtain ⟨kb2, ko2, y1, rfl, hy1, d2, -⟩ := (HD.out.k.below HBA.out).get (i := i) (by rw [HL.out.1.2]; exact hiS)
      obtain ⟨vb1, vo1, x2, rfl, hx2, d3, -⟩ := (HC.out.v.below HBA.out).get (i := i) (by rw [HL.out.2.1]; exact hiS)
      obtain ⟨vb2, vo2, y2, rfl, hy2, d4, -⟩ := (HD.out.v.below HBA.out).get (i := i) (by rw [HL.out.2.2]; exact hiS)
      have CA := Lib.hid (fun dd os => Calls.regrown_of (w := wr) (d := dd) (os := os) (I1.out i hiS (Sort.grow (redrawn wr dd) os) ((HC.out.w.below HBA.out).below (below_regrown wr dd os))))
      have CB := Lib.hid (fun dd os => Calls.regrown_of (w := wr) (d := dd) (os := os) (I2.out i hiS (Sort.grow (redrawn wr dd) os) ((HD.out.w.below HBA.out).below (below_regrown wr dd os))))
      have HX1 := hx1
      have HX2 := hx2
      have HY1 := hy1
      have HY2 := hy2
      have k0 := cell_regrown c_s0
      have l0 := cell_regrown c_t0
      have k1 := cell_regrown c_s1
      have l1 := cell_regrown c_t1
      have k2 := cell_regrown c_s2
      have l2 := cell_regrown c_t2
      have k3 := cell_regrown c_s3
      have l3 := cell_regrown c_t3
      have k4 := cell_regrown c_s4
      have l4 := cell_regrown c_t4
      have k5 := cell_regrown c_s5
      have l5 := cell_regrown c_t5
      have n1 := cell_regrown d1
      have n2 := cell_regrown d2
      have n3 := cell_regrown d3
      have n4 := cell_regrown d4
      have k9 : IntKind.i64.wrap ((i : Int) + 1) = (i : Int) + 1 := IntWalk.i64_in _ (by omega)
      clear hx1 hx2 hy1 hy2 d1 d2 d3 d4 HBA
      generalize hb1 : bitW ws i = bt1 at *
      generalize hb2 : bitW ws' i = bt2 at *
      have HBT := Lib.hid (And.intro hb1 hb2)
      clear hb1 hb2
      by_cases hbb : bt1 = bt2
      · subst hbb
        have eB : (bt1 != bt1) = false := by simp
        by_cases hxy : x1 = y1
        · subst hxy
          have eK : (x1 != x1) = false := by simp
          by_cases hvv : x2 = y2
          · subst hvv
            have eV : (x2 != x2) = false := by simp
            go_upto_region 4 with (fail)
            refine wp_region_quiet_below (by kernel_rfl) (by kernel_rfl) ?_
            repeat (go_big_quiet_step (first | exact CA.out _ _ | exact CB.out _ _))
            refine wpQuiet_nil ?_
            intro _ hw'
            obtain ⟨⟨dq, osq⟩, hw''⟩ := hw'
            subst hw''
            have HBR := Lib.hid (HBr.out.trans ((below_regrown wr dq osq).mono hzr))
            have HBB := Lib.hid (below_via HBR.out HB0.out HB0.out.size)
            clear CA CB
            go_wp2
            go_roundg (gk - 1)
            case measure => have := HI.out; omega
            case rel =>
              refine ⟨i + 1, by have := HI.out; omega, by omega, by go_num, HBR, Lib.hid fun j j1 j2 => ?_⟩
              by_cases e : j = i
              · rw [e]
                exact ⟨HBT.out.1.trans HBT.out.2.symm, HX1.out.trans HY1.out.symm, HX2.out.trans HY2.out.symm⟩
              · exact HE.out j j1 (by omega)
          · have eV : (x2 != y2) = true := by simpa using hvv
            have HV := Lib.hid hvv
            clear hvv
            go_upto_region 4 with (fail)
            have hR : R = false := by
              cases R with
              | false => rfl
              | true => exact absurd (HALK.out.1 rfl i hip hlt) (fun h => HV.out (by rw [← HX2.out, ← HY2.out]; exact h.2.2))
            subst hR
            refine wp_region_quiet_below (by kernel_rfl) (by kernel_rfl) ?_
            repeat (go_big_quiet_step (first | exact CA.out _ _ | exact CB.out _ _))
            refine wpQuiet_nil ?_
            intro _ hw'
            obtain ⟨⟨dq, osq⟩, hw''⟩ := hw'
            subst hw''
            have HBR := Lib.hid (HBr.out.trans ((below_regrown wr dq osq).mono hzr))
            have HBB := Lib.hid (below_via HBR.out HB0.out HB0.out.size)
            clear CA CB
            go_wp2
            go_ret
            exact ⟨rfl, HBB.out⟩
        · have eK : (x1 != y1) = true := by simpa using hxy
          have HV := Lib.hid hxy
          clear hxy
          go_upto_region 4 with (fail)
          have hR : R = false := by
            cases R with
            | false => rfl
            | true => exact absurd (HALK.out.1 rfl i hip hlt) (fun h => HV.out (by rw [← HX1.out, ← HY1.out]; exact h.2.1))
          subst hR
          refine wp_region_quiet_below (by kernel_rfl) (by kernel_rfl) ?_
          repeat (go_big_quiet_step (first | exact CA.out _ _ | exact CB.out _ _))
          refine wpQuiet_nil ?_
          intro _ hw'
          obtain ⟨⟨dq, osq⟩, hw''⟩ := hw'
          subst hw''
          have HBR := Lib.hid (HBr.out.trans ((below_regrown wr dq osq).mono hzr))
          have HBB := Lib.hid (below_via HBR.out HB0.out HB0.out.size)
          clear CA CB
          go_wp2
          go_ret
          exact ⟨rfl, HBB.out⟩
      · have hcase : (bt1 = true ∧ bt2 = false) ∨ (bt1 = false ∧ bt2 = true) := by
          cases bt1 <;> cases bt2 <;> simp at hbb ⊢
        clear hbb
        rcases hcase with ⟨rfl, rfl⟩ | ⟨rfl, rfl⟩
        · go_upto_region 4 with (fail)
          have hR : R = false := by
            cases R with
            | false => rfl
            | true => exact absurd (HALK.out.1 rfl i hip hlt) (fun h => absurd (HBT.out.1.symm.trans (h.1.trans HBT.out.2)) (by decide))
          subst hR
          refine wp_region_quiet_below (by kernel_rfl) (by kernel_rfl) ?_
          repeat (go_big_quiet_step (first | exact CA.out _ _ | exact CB.out _ _))
          refine wpQuiet_nil ?_
          intro _ hw'
          obtain ⟨⟨dq, osq⟩, hw''⟩ := hw'
          subst hw''
          have HBR := Lib.hid (HBr.out.trans ((below_regrown wr dq osq).mono hzr))
          have HBB := Lib.hid (below_via HBR.out HB0.out HB0.out.size)
          clear CA CB
          go_wp2
          go_ret
          exact ⟨rfl, HBB.out⟩
        · go_upto_region 4 with (fail)
          have hR : R = false := by
            cases R with
            | false => rfl
            | true => exact absurd (HALK.out.1 rfl i hip hlt) (fun h => absurd (HBT.out.1.symm.trans (h.1.trans HBT.out.2)) (by decide))
          subst hR
          refine wp_region_quiet_below (by kernel_rfl) (by kernel_rfl) ?_
          repeat (go_big_quiet_step (first | exact CA.out _ _ | exact CB.out _ _))
          refine wpQuiet_nil ?_
          intro _ hw'
          obtain ⟨⟨dq, osq⟩, hw''⟩ := hw'
          subst hw''
          have HBR := Lib.hid (HBr.out.trans ((below_regrown wr dq osq).mono hzr))
          have HBB := Lib.hid (below_via HBR.out HB0.out HB0.out.size)
          clear CA CB
          go_wp2
          go_ret
          exact ⟨rfl, HBB.out⟩
    · have hie : i = p2 := by omega
      have hR : R = true := HALK.out.2 fun j j1 j2 => HE.out j j1 (by omega)
      subst hR
      have HBB := Lib.hid (below_via HBr.out HB0.out HB0.out.size)
      go_wp2
      go_ret
      exact ⟨rfl, HBB.out⟩

def bF (c d : SlC) (S M j : Nat) : Nat := ((List.range' j (M - j)).find? fun k => !alkB c d S k).getD 0
def bT (c d : SlC) (S M j : Nat) : Nat := if j < toU c d S M then toU c d S M else 0
theorem bF_last {c d : SlC} {S M : Nat} : bF c d S M M = 0 := by simp [bF]
theorem bT_last {c d : SlC} {S M : Nat} : bT c d S M M = 0 := by rw [bT, if_neg (by have := toU_le c d S M; omega)]
theorem bF_step {c d : SlC} {S M i : Nat} (h : i < M) : bF c d S M i = if alkB c d S i = true then bF c d S M (i + 1) else i := by
  unfold bF
  rw [show M - i = (M - (i + 1)) + 1 by omega, List.range'_succ, List.find?_cons]
  cases alkB c d S i <;> simp
theorem bT_step {c d : SlC} {S M i : Nat} (h : i < M) : bT c d S M i = if alkB c d S i = true then bT c d S M (i + 1) else max (bT c d S M (i + 1)) (i + 1) := by
  unfold bT
  by_cases ha : alkB c d S i = true
  · rw [if_pos ha]
    have hne : toU c d S M ≠ i + 1 := fun e => by
      have := toU_not (c := c) (d := d) (S := S) (M := M) (by omega)
      rw [e, Nat.add_sub_cancel, ha] at this
      cases this
    by_cases h1 : i < toU c d S M
    · rw [if_pos h1, if_pos (by omega)]
    · rw [if_neg h1, if_neg (by omega)]
  · rw [if_neg ha]
    have h1 : i < toU c d S M := Nat.lt_of_not_le fun hc => ha (toU_like hc h)
    rw [if_pos h1]
    by_cases h2 : i + 1 < toU c d S M
    · rw [if_pos h2]; omega
    · rw [if_neg h2]; omega
theorem bF_first {c d : SlC} {S M : Nat} : bF c d S M 0 = tuF c d S M := by
  unfold bF tuF fromU
  rw [Nat.sub_zero]
  cases e : (List.range' 0 M).find? fun k => !alkB c d S k with
  | none => simp
  | some k =>
    have := List.mem_range'_1.1 (List.mem_of_find?_eq_some e)
    simp only [Option.getD_some]
    rw [if_neg (by omega)]
theorem bT_first {c d : SlC} {S M : Nat} : bT c d S M 0 = tuT c d S M := by
  unfold bT tuT
  by_cases e : fromU c d S M = M
  · rw [if_pos e]
    by_cases h : 0 < toU c d S M
    · have h1 := toU_not h
      have h2 := toU_le c d S M
      rw [fromU_like (M := M) (by omega)] at h1
      cases h1
    · rw [if_neg h]
  · rw [if_neg e]
    by_cases h : 0 < toU c d S M
    · rw [if_pos h]
    · rw [if_neg h]; omega

set_option maxRecDepth 100000 in
set_option maxHeartbeats 2000000 in
theorem Between20_core (aseg : Int) (awa aka ava aca : Option Addr) (awc akc avc acc alw alk alv alc : Nat) (alaid : Int) (bseg : Int) (bwa bka bva bca : Option Addr) (bwc bkc bvc bcc blw blk blv blc : Nat) (blaid : Int) (w : World) (M : Nat) (al : Nat → Bool) (f t : Nat → Nat) (hM : M ≤ 65536) (hl : alc = M) (f0 : f M = 0) (t0 : t M = 0) (HFS : Hid (∀ i, i < M → f i = (if al i = true then f (i + 1) else i) ∧ t i = (if al i = true then t (i + 1) else max (t (i + 1)) (i + 1))))
    (AK : Hid (∀ k, k < M → ∀ W, Below w.heap.size w W → Calls Try.prog 71 #[.agg #[.int .i64 aseg, .slice awa alw awc, .slice aka alk akc, .slice ava alv avc, .slice aca alc acc, .int .u64 alaid], .agg #[.int .i64 bseg, .slice bwa blw bwc, .slice bka blk bkc, .slice bva blv bvc, .slice bca blc bcc, .int .u64 blaid], .int .i64 k] W (AnsB W (.bool (al k))))) :
    Calls Try.prog 37 #[.agg #[.int .i64 aseg, .slice awa alw awc, .slice aka alk akc, .slice ava alv avc, .slice aca alc acc, .int .u64 alaid], .agg #[.int .i64 bseg, .slice bwa blw bwc, .slice bka blk bkc, .slice bva blv bvc, .slice bca blc bcc, .int .u64 blaid]] w (AnsB w (.tuple #[.int .i64 (f 0), .int .i64 (t 0)])) := by
  subst hl
  have k0 : IntKind.i64.wrap ((alc : Int) - 1) = (alc : Int) - 1 := IntWalk.i64_in _ (by omega)
  have HF0 := Lib.hid (And.intro f0 t0)
  clear f0 t0
  go_enter Try.func37, Try.ntmps37
  go_wp2
  generalize hwz : ((w.alloc (.cells #[.int .i64 aseg, .slice awa alw awc, .slice aka alk akc, .slice ava alv avc, .slice aca alc acc, .int .u64 alaid] 29)).alloc (.cells #[.int .i64 bseg, .slice bwa blw bwc, .slice bka blk bkc, .slice bva blv bvc, .slice bca blc bcc, .int .u64 blaid] 29)) = wz
  have c_s0 : wz.cell? ⟨w.heap.size, 0, none⟩ = some (.int .i64 aseg) := by rw [← hwz]; (first | (with_reducible assumption) | ((simp only [World.frozen?_setCell, World.frozen?_drew, World.frozen?_drewN]) <;> (with_reducible assumption)) | ((repeat (first | (with_reducible assumption) | (with_reducible refine World.cell?_setCell_same _ _ _ (by with_reducible assumption)) | (rw [World.cell?_setCell_other _ _ _ _ (by intro e; simp at e; done)]) | (with_reducible refine cell_setCell_block ?_ ?_) | (rw [World.cell?_drew]) | (rw [World.cell?_drewN]) | (dsimp only; omega))); done) | (first | (with_reducible assumption) | ((try simp (disch := first | omega | (simp only [szW] <;> omega) | fail) only [ceW]) <;> first | (with_reducible assumption) | rfl)))
  have c_s1 : wz.cell? ⟨w.heap.size, 1, none⟩ = some (.slice awa alw awc) := by rw [← hwz]; (first | (with_reducible assumption) | ((simp only [World.frozen?_setCell, World.frozen?_drew, World.frozen?_drewN]) <;> (with_reducible assumption)) | ((repeat (first | (with_reducible assumption) | (with_reducible refine World.cell?_setCell_same _ _ _ (by with_reducible assumption)) | (rw [World.cell?_setCell_other _ _ _ _ (by intro e; simp at e; done)]) | (with_reducible refine cell_setCell_block ?_ ?_) | (rw [World.cell?_drew]) | (rw [World.cell?_drewN]) | (dsimp only; omega))); done) | (first | (with_reducible assumption) | ((try simp (disch := first | omega | (simp only [szW] <;> omega) | fail) only [ceW]) <;> first | (with_reducible assumption) | rfl)))
  have c_s2 : wz.cell? ⟨w.heap.size, 2, none⟩ = some (.slice aka alk akc) := by rw [← hwz]; (first | (with_reducible assumption) | ((simp only [World.frozen?_setCell, World.frozen?_drew, World.frozen?_drewN]) <;> (with_reducible assumption)) | ((repeat (first | (with_reducible assumption) | (with_reducible refine World.cell?_setCell_same _ _ _ (by with_reducible assumption)) | (rw [World.cell?_setCell_other _ _ _ _ (by intro e; simp at e; done)]) | (with_reducible refine cell_setCell_block ?_ ?_) | (rw [World.cell?_drew]) | (rw [World.cell?_drewN]) | (dsimp only; omega))); done) | (first | (with_reducible assumption) | ((try simp (disch := first | omega | (simp only [szW] <;> omega) | fail) only [ceW]) <;> first | (with_reducible assumption) | rfl)))
  have c_s3 : wz.cell? ⟨w.heap.size, 3, none⟩ = some (.slice ava alv avc) := by rw [← hwz]; (first | (with_reducible assumption) | ((simp only [World.frozen?_setCell, World.frozen?_drew, World.frozen?_drewN]) <;> (with_reducible assumption)) | ((repeat (first | (with_reducible assumption) | (with_reducible refine World.cell?_setCell_same _ _ _ (by with_reducible assumption)) | (rw [World.cell?_setCell_other _ _ _ _ (by intro e; simp at e; done)]) | (with_reducible refine cell_setCell_block ?_ ?_) | (rw [World.cell?_drew]) | (rw [World.cell?_drewN]) | (dsimp only; omega))); done) | (first | (with_reducible assumption) | ((try simp (disch := first | omega | (simp only [szW] <;> omega) | fail) only [ceW]) <;> first | (with_reducible assumption) | rfl)))
  have c_s4 : wz.cell? ⟨w.heap.size, 4, none⟩ = some (.slice aca alc acc) := by rw [← hwz]; (first | (with_reducible assumption) | ((simp only [World.frozen?_setCell, World.frozen?_drew, World.frozen?_drewN]) <;> (with_reducible assumption)) | ((repeat (first | (with_reducible assumption) | (with_reducible refine World.cell?_setCell_same _ _ _ (by with_reducible assumption)) | (rw [World.cell?_setCell_other _ _ _ _ (by intro e; simp at e; done)]) | (with_reducible refine cell_setCell_block ?_ ?_) | (rw [World.cell?_drew]) | (rw [World.cell?_drewN]) | (dsimp only; omega))); done) | (first | (with_reducible assumption) | ((try simp (disch := first | omega | (simp only [szW] <;> omega) | fail) only [ceW]) <;> first | (with_reducible assumption) | rfl)))
  have c_s5 : wz.cell? ⟨w.heap.size, 5, none⟩ = some (.int .u64 alaid) := by rw [← hwz]; (first | (with_reducible assumption) | ((simp only [World.frozen?_setCell, World.frozen?_drew, World.frozen?_drewN]) <;> (with_reducible assumption)) | ((repeat (first | (with_reducible assumption) | (with_reducible refine World.cell?_setCell_same _ _ _ (by with_reducible assumption)) | (rw [World.cell?_setCell_other _ _ _ _ (by intro e; simp at e; done)]) | (with_reducible refine cell_setCell_block ?_ ?_) | (rw [World.cell?_drew]) | (rw [World.cell?_drewN]) | (dsimp only; omega))); done) | (first | (with_reducible assumption) | ((try simp (disch := first | omega | (simp only [szW] <;> omega) | fail) only [ceW]) <;> first | (with_reducible assumption) | rfl)))
  have z_s : w.heap.size < wz.heap.size := by rw [← hwz]; (first | (with_reducible assumption) | omega | (simp only [szW] <;> omega) | (simp <;> omega))
  have c_t0 : wz.cell? ⟨w.heap.size + 1, 0, none⟩ = some (.int .i64 bseg) := by rw [← hwz]; (first | (with_reducible assumption) | ((simp only [World.frozen?_setCell, World.frozen?_drew, World.frozen?_drewN]) <;> (with_reducible assumption)) | ((repeat (first | (with_reducible assumption) | (with_reducible refine World.cell?_setCell_same _ _ _ (by with_reducible assumption)) | (rw [World.cell?_setCell_other _ _ _ _ (by intro e; simp at e; done)]) | (with_reducible refine cell_setCell_block ?_ ?_) | (rw [World.cell?_drew]) | (rw [World.cell?_drewN]) | (dsimp only; omega))); done) | (first | (with_reducible assumption) | ((try simp (disch := first | omega | (simp only [szW] <;> omega) | fail) only [ceW]) <;> first | (with_reducible assumption) | rfl)))
  have c_t1 : wz.cell? ⟨w.heap.size + 1, 1, none⟩ = some (.slice bwa blw bwc) := by rw [← hwz]; (first | (with_reducible assumption) | ((simp only [World.frozen?_setCell, World.frozen?_drew, World.frozen?_drewN]) <;> (with_reducible assumption)) | ((repeat (first | (with_reducible assumption) | (with_reducible refine World.cell?_setCell_same _ _ _ (by with_reducible assumption)) | (rw [World.cell?_setCell_other _ _ _ _ (by intro e; simp at e; done)]) | (with_reducible refine cell_setCell_block ?_ ?_) | (rw [World.cell?_drew]) | (rw [World.cell?_drewN]) | (dsimp only; omega))); done) | (first | (with_reducible assumption) | ((try simp (disch := first | omega | (simp only [szW] <;> omega) | fail) only [ceW]) <;> first | (with_reducible assumption) | rfl)))
  have c_t2 : wz.cell? ⟨w.heap.size + 1, 2, none⟩ = some (.slice bka blk bkc) := by rw [← hwz]; (first | (with_reducible assumption) | ((simp only [World.frozen?_setCell, World.frozen?_drew, World.frozen?_drewN]) <;> (with_reducible assumption)) | ((repeat (first | (with_reducible assumption) | (with_reducible refine World.cell?_setCell_same _ _ _ (by with_reducible assumption)) | (rw [World.cell?_setCell_other _ _ _ _ (by intro e; simp at e; done)]) | (with_reducible refine cell_setCell_block ?_ ?_) | (rw [World.cell?_drew]) | (rw [World.cell?_drewN]) | (dsimp only; omega))); done) | (first | (with_reducible assumption) | ((try simp (disch := first | omega | (simp only [szW] <;> omega) | fail) only [ceW]) <;> first | (with_reducible assumption) | rfl)))
  have c_t3 : wz.cell? ⟨w.heap.size + 1, 3, none⟩ = some (.slice bva blv bvc) := by rw [← hwz]; (first | (with_reducible assumption) | ((simp only [World.frozen?_setCell, World.frozen?_drew, World.frozen?_drewN]) <;> (with_reducible assumption)) | ((repeat (first | (with_reducible assumption) | (with_reducible refine World.cell?_setCell_same _ _ _ (by with_reducible assumption)) | (rw [World.cell?_setCell_other _ _ _ _ (by intro e; simp at e; done)]) | (with_reducible refine cell_setCell_block ?_ ?_) | (rw [World.cell?_drew]) | (rw [World.cell?_drewN]) | (dsimp only; omega))); done) | (first | (with_reducible assumption) | ((try simp (disch := first | omega | (simp only [szW] <;> omega) | fail) only [ceW]) <;> first | (with_reducible assumption) | rfl)))
  have c_t4 : wz.cell? ⟨w.heap.size + 1, 4, none⟩ = some (.slice bca blc bcc) := by rw [← hwz]; (first | (with_reducible assumption) | ((simp only [World.frozen?_setCell, World.frozen?_drew, World.frozen?_drewN]) <;> (with_reducible assumption)) | ((repeat (first | (with_reducible assumption) | (with_reducible refine World.cell?_setCell_same _ _ _ (by with_reducible assumption)) | (rw [World.cell?_setCell_other _ _ _ _ (by intro e; simp at e; done)]) | (with_reducible refine cell_setCell_block ?_ ?_) | (rw [World.cell?_drew]) | (rw [World.cell?_drewN]) | (dsimp only; omega))); done) | (first | (with_reducible assumption) | ((try simp (disch := first | omega | (simp only [szW] <;> omega) | fail) only [ceW]) <;> first | (with_reducible assumption) | rfl)))
  have c_t5 : wz.cell? ⟨w.heap.size + 1, 5, none⟩ = some (.int .u64 blaid) := by rw [← hwz]; (first | (with_reducible assumption) | ((simp only [World.frozen?_setCell, World.frozen?_drew, World.frozen?_drewN]) <;> (with_reducible assumption)) | ((repeat (first | (with_reducible assumption) | (with_reducible refine World.cell?_setCell_same _ _ _ (by with_reducible assumption)) | (rw [World.cell?_setCell_other _ _ _ _ (by intro e; simp at e; done)]) | (with_reducible refine cell_setCell_block ?_ ?_) | (rw [World.cell?_drew]) | (rw [World.cell?_drewN]) | (dsimp only; omega))); done) | (first | (with_reducible assumption) | ((try simp (disch := first | omega | (simp only [szW] <;> omega) | fail) only [ceW]) <;> first | (with_reducible assumption) | rfl)))
  have z_t : w.heap.size + 1 < wz.heap.size := by rw [← hwz]; (first | (with_reducible assumption) | omega | (simp only [szW] <;> omega) | (simp <;> omega))
  have HB0 : Hid (Below w.heap.size w wz) := by rw [← hwz]; exact Lib.hid (((Below.refl _ _).alloc (Nat.le_refl _) _).alloc (by simp) _)
  clear hwz
  go_wp2
  go_loopg [6, 7, 8] alc (fun gk fv tv iv wr => ∃ j : Nat, j = gk ∧ j ≤ alc ∧ iv = .int .i64 ((j : Int) - 1) ∧ fv = .int .i64 (f j) ∧ tv = .int .i64 (t j) ∧ Hid (Below wz.heap.size wz wr))
  case atStart => exact ⟨alc, rfl, Nat.le_refl _, rfl, by rw [HF0.out.1]; rfl, by rw [HF0.out.2]; rfl, Lib.hid (Below.refl _ _)⟩
  case round =>
    obtain ⟨j, hj, hjM, rfl, rfl, rfl, HBr⟩ := hrel
    have hzr := HBr.out.size
    have hz_wr := HBr.out.size
    try simp only [World.size_alloc, World.size_setCell] at hz_wr
    have all_c : wr.cell? ⟨w.heap.size, 0, none⟩ = some (.int .i64 aseg) ∧ wr.cell? ⟨w.heap.size, 1, none⟩ = some (.slice awa alw awc) ∧ wr.cell? ⟨w.heap.size, 2, none⟩ = some (.slice aka alk akc) ∧ wr.cell? ⟨w.heap.size, 3, none⟩ = some (.slice ava alv avc) ∧ wr.cell? ⟨w.heap.size, 4, none⟩ = some (.slice aca alc acc) ∧ wr.cell? ⟨w.heap.size, 5, none⟩ = some (.int .u64 alaid) ∧ wr.cell? ⟨w.heap.size + 1, 0, none⟩ = some (.int .i64 bseg) ∧ wr.cell? ⟨w.heap.size + 1, 1, none⟩ = some (.slice bwa blw bwc) ∧ wr.cell? ⟨w.heap.size + 1, 2, none⟩ = some (.slice bka blk bkc) ∧ wr.cell? ⟨w.heap.size + 1, 3, none⟩ = some (.slice bva blv bvc) ∧ wr.cell? ⟨w.heap.size + 1, 4, none⟩ = some (.slice bca blc bcc) ∧ wr.cell? ⟨w.heap.size + 1, 5, none⟩ = some (.int .u64 blaid) := by refine ⟨?_, ?_, ?_, ?_, ?_, ?_, ?_, ?_, ?_, ?_, ?_, ?_⟩ <;> (refine (HBr.out.cell ?_).trans ?_ <;> first | (first | (with_reducible assumption) | omega | (simp only [szW] <;> omega) | (simp <;> omega)) | (first | (with_reducible assumption) | ((try simp (disch := first | omega | (simp only [szW] <;> omega) | fail) only [ceW]) <;> first | (with_reducible assumption) | rfl)))
    have all_z : w.heap.size < wr.heap.size ∧ w.heap.size + 1 < wr.heap.size := by refine ⟨?_, ?_⟩ <;> (omega)
    clear c_s0 c_s1 c_s2 c_s3 c_s4 c_s5 c_t0 c_t1 c_t2 c_t3 c_t4 c_t5 z_s z_t
    obtain ⟨c_s0, c_s1, c_s2, c_s3, c_s4, c_s5, c_t0, c_t1, c_t2, c_t3, c_t4, c_t5⟩ := all_c
    try clear all_c
    obtain ⟨z_s, z_t⟩ := all_z
    try clear all_z
    have hBr : Below w.heap.size w wr := below_via HBr.out HB0.out HB0.out.size
    have HJ := Lib.hid hj
    clear hj
    by_cases h0 : j = 0
    · subst h0
      have HBB := Lib.hid hBr
      clear hBr
      go_wp2
      go_ret2
      exact ⟨rfl, HBB.out⟩
    · obtain ⟨i, rfl⟩ : ∃ i, j = i + 1 := ⟨j - 1, by omega⟩
      have hi1 : (((i + 1 : Nat) : Int) - 1) = (i : Int) := by push_cast; omega
      rw [hi1]
      obtain ⟨s1, s2⟩ := HFS.out i (by omega)
      have A1 := Lib.hid (AK.out i (by omega) wr hBr)
      have k1 : IntKind.i64.wrap ((i : Int) - 1) = (i : Int) - 1 := IntWalk.i64_in _ (by omega)
      have k2 : IntKind.i64.wrap ((i : Int) + 1) = (i : Int) + 1 := IntWalk.i64_in _ (by omega)
      cases hal : al i with
      | true =>
        rw [hal] at A1
        rw [if_pos hal] at s1 s2
        have HS := Lib.hid (And.intro s1 s2)
        clear s1 s2 hi1 hal h0
        go_wp2_with fail
        refine A1.out.mono ?_
        rintro e w1 ⟨rfl, hb1⟩
        have HB1 := Lib.hid (HBr.out.trans (hb1.mono hzr))
        clear hb1
        go_wp2
        go_roundg (gk - 1)
        case measure => have := HJ.out; omega
        case rel => exact ⟨i, by have := HJ.out; omega, by omega, by go_num, by rw [HS.out.1], by rw [HS.out.2], HB1⟩
      | false =>
        rw [hal] at A1
        rw [if_neg (by rw [hal]; decide)] at s1 s2
        have HS := Lib.hid (And.intro s1 s2)
        clear s1 s2 hi1 hal h0
        generalize f (i + 1) = f1 at *
        generalize t (i + 1) = t1 at *
        rcases Nat.lt_or_ge (t1 : Nat) (i + 1) with hlt | hge
        · have hlt' : (t1 : Int) < (i : Int) + 1 := by omega
          go_wp2_with fail
          refine A1.out.mono ?_
          rintro e w1 ⟨rfl, hb1⟩
          have HB1 := Lib.hid (HBr.out.trans (hb1.mono hzr))
          clear hb1
          go_wp2
          go_roundg (gk - 1)
          case measure => have := HJ.out; omega
          case rel => exact ⟨i, by have := HJ.out; omega, by omega, by go_num, by rw [HS.out.1], by rw [HS.out.2, Nat.max_eq_right (by omega)]; push_cast; rfl, HB1⟩
        · have hlt' : (i : Int) + 1 ≤ (t1 : Int) := by omega
          go_wp2_with fail
          refine A1.out.mono ?_
          rintro e w1 ⟨rfl, hb1⟩
          have HB1 := Lib.hid (HBr.out.trans (hb1.mono hzr))
          clear hb1
          go_wp2
          go_roundg (gk - 1)
          case measure => have := HJ.out; omega
          case rel => exact ⟨i, by have := HJ.out; omega, by omega, by go_num, by rw [HS.out.1], by rw [HS.out.2, Nat.max_eq_left (by omega)], HB1⟩

theorem fits20_ok (aseg : Int) (awa aka ava aca : Option Addr) (awc akc avc acc alw alk alv alc : Nat) (alaid : Int) (bseg : Int) (bwa bka bva bca : Option Addr) (bwc bkc bvc bcc blw blk blv blc : Nat) (blaid : Int) (w : World) :
    Calls Try.prog 36 #[.agg #[.int .i64 aseg, .slice awa alw awc, .slice aka alk akc, .slice ava alv avc, .slice aca alc acc, .int .u64 alaid], .agg #[.int .i64 bseg, .slice bwa blw bwc, .slice bka blk bkc, .slice bva blv bvc, .slice bca blc bcc, .int .u64 blaid]] w (AnsB w (.bool (decide (aseg = bseg) && decide (alk = blk)))) := by
  by_cases h1 : aseg = bseg
  · subst h1
    by_cases h2 : alk = blk
    · subst h2
      have g : ((alk : Int) == (alk : Int)) = true := by simp
      go_enter Try.func36, Try.ntmps36
      go_wp2
      go_ret
      exact ⟨by simp, by (repeat (first | with_reducible (first | exact Below.refl _ _ | assumption | exact Hid.out (by assumption) | refine Below.alloc ?_ ?_ _ | refine Below.setCell ?_ ?_ _ | refine below_drewN ?_ _ | refine Below.drew ?_ | refine below_via (by assumption) ?_ ?_) | (first | (with_reducible assumption) | omega | (simp only [szW] <;> omega) | (simp <;> omega))))⟩
    · have g : ((alk : Int) == (blk : Int)) = false := by simp; omega
      go_enter Try.func36, Try.ntmps36
      go_wp2
      go_ret
      exact ⟨by simp [h2], by (repeat (first | with_reducible (first | exact Below.refl _ _ | assumption | exact Hid.out (by assumption) | refine Below.alloc ?_ ?_ _ | refine Below.setCell ?_ ?_ _ | refine below_drewN ?_ _ | refine Below.drew ?_ | refine below_via (by assumption) ?_ ?_) | (first | (with_reducible assumption) | omega | (simp only [szW] <;> omega) | (simp <;> omega))))⟩
  · have g : (aseg == bseg) = false := by simpa using h1
    go_enter Try.func36, Try.ntmps36
    go_wp2
    go_ret
    exact ⟨by simp [h1], by (repeat (first | with_reducible (first | exact Below.refl _ _ | assumption | exact Hid.out (by assumption) | refine Below.alloc ?_ ?_ _ | refine Below.setCell ?_ ?_ _ | refine below_drewN ?_ _ | refine Below.drew ?_ | refine below_via (by assumption) ?_ ?_) | (first | (with_reducible assumption) | omega | (simp only [szW] <;> omega) | (simp <;> omega))))⟩

theorem Turned20_no1 (aseg : Int) (awa aka ava aca : Option Addr) (awc akc avc acc alw alk alv alc : Nat) (alaid : Int) (bseg : Int) (bwa bka bva bca : Option Addr) (bwc bkc bvc bcc blw blk blv blc : Nat) (blaid : Int) (w : World) (MA : Hid (∀ W, Below w.heap.size w W → Calls Try.prog 35 #[.agg #[.int .i64 aseg, .slice awa alw awc, .slice aka alk akc, .slice ava alv avc, .slice aca alc acc, .int .u64 alaid]] W (AnsB W (.bool false)))) :
    Calls Try.prog 14 #[.agg #[.int .i64 aseg, .slice awa alw awc, .slice aka alk akc, .slice ava alv avc, .slice aca alc acc, .int .u64 alaid], .agg #[.int .i64 bseg, .slice bwa blw bwc, .slice bka blk bkc, .slice bva blv bvc, .slice bca blc bcc, .int .u64 blaid]] w (AnsB w (.tuple #[.int .i64 0, .int .i64 0, .int .i64 8])) := by
  go_enter Try.func14, Try.ntmps14
  go_wp2_with fail
  refine (MA.out _ (by (repeat (first | with_reducible (first | exact Below.refl _ _ | assumption | exact Hid.out (by assumption) | refine Below.alloc ?_ ?_ _ | refine Below.setCell ?_ ?_ _ | refine below_drewN ?_ _ | refine Below.drew ?_ | refine below_via (by assumption) ?_ ?_) | (first | (with_reducible assumption) | omega | (simp only [szW] <;> omega) | (simp <;> omega)))))).mono ?_
  rintro e w1 ⟨rfl, hb1⟩
  have hz_w1 := hb1.size
  try simp only [World.size_alloc, World.size_setCell] at hz_w1
  have hB1 : Below w.heap.size w w1 := by (repeat (first | with_reducible (first | exact Below.refl _ _ | assumption | exact Hid.out (by assumption) | refine Below.alloc ?_ ?_ _ | refine Below.setCell ?_ ?_ _ | refine below_drewN ?_ _ | refine Below.drew ?_ | refine below_via (by assumption) ?_ ?_) | (first | (with_reducible assumption) | omega | (simp only [szW] <;> omega) | (simp <;> omega))))
  go_wp2
  go_ret3
  exact ⟨rfl, hB1⟩

theorem Turned20_no2 (aseg : Int) (awa aka ava aca : Option Addr) (awc akc avc acc alw alk alv alc : Nat) (alaid : Int) (bseg : Int) (bwa bka bva bca : Option Addr) (bwc bkc bvc bcc blw blk blv blc : Nat) (blaid : Int) (w : World) (MA : Hid (∀ W, Below w.heap.size w W → Calls Try.prog 35 #[.agg #[.int .i64 aseg, .slice awa alw awc, .slice aka alk akc, .slice ava alv avc, .slice aca alc acc, .int .u64 alaid]] W (AnsB W (.bool true)))) (MB : Hid (∀ W, Below w.heap.size w W → Calls Try.prog 35 #[.agg #[.int .i64 bseg, .slice bwa blw bwc, .slice bka blk bkc, .slice bva blv bvc, .slice bca blc bcc, .int .u64 blaid]] W (AnsB W (.bool false)))) :
    Calls Try.prog 14 #[.agg #[.int .i64 aseg, .slice awa alw awc, .slice aka alk akc, .slice ava alv avc, .slice aca alc acc, .int .u64 alaid], .agg #[.int .i64 bseg, .slice bwa blw bwc, .slice bka blk bkc, .slice bva blv bvc, .slice bca blc bcc, .int .u64 blaid]] w (AnsB w (.tuple #[.int .i64 0, .int .i64 0, .int .i64 8])) := by
  go_enter Try.func14, Try.ntmps14
  go_wp2_with fail
  refine (MA.out _ (by (repeat (first | with_reducible (first | exact Below.refl _ _ | assumption | exact Hid.out (by assumption) | refine Below.alloc ?_ ?_ _ | refine Below.setCell ?_ ?_ _ | refine below_drewN ?_ _ | refine Below.drew ?_ | refine below_via (by assumption) ?_ ?_) | (first | (with_reducible assumption) | omega | (simp only [szW] <;> omega) | (simp <;> omega)))))).mono ?_
  rintro e w1 ⟨rfl, hb1⟩
  have hz_w1 := hb1.size
  try simp only [World.size_alloc, World.size_setCell] at hz_w1
  have all_c : w1.cell? ⟨w.heap.size + 1, 0, none⟩ = some (.int .i64 bseg) ∧ w1.cell? ⟨w.heap.size + 1, 1, none⟩ = some (.slice bwa blw bwc) ∧ w1.cell? ⟨w.heap.size + 1, 2, none⟩ = some (.slice bka blk bkc) ∧ w1.cell? ⟨w.heap.size + 1, 3, none⟩ = some (.slice bva blv bvc) ∧ w1.cell? ⟨w.heap.size + 1, 4, none⟩ = some (.slice bca blc bcc) ∧ w1.cell? ⟨w.heap.size + 1, 5, none⟩ = some (.int .u64 blaid) := by refine ⟨?_, ?_, ?_, ?_, ?_, ?_⟩ <;> (refine (hb1.cell ?_).trans ?_ <;> first | (first | (with_reducible assumption) | omega | (simp only [szW] <;> omega) | (simp <;> omega)) | (first | (with_reducible assumption) | ((try simp (disch := first | omega | (simp only [szW] <;> omega) | fail) only [ceW]) <;> first | (with_reducible assumption) | rfl)))
  have all_z : w.heap.size + 1 < w1.heap.size := by omega
  obtain ⟨c_b0, c_b1, c_b2, c_b3, c_b4, c_b5⟩ := all_c
  try clear all_c
  have z_b := all_z
  try clear all_z
  have hB1 : Below w.heap.size w w1 := by (repeat (first | with_reducible (first | exact Below.refl _ _ | assumption | exact Hid.out (by assumption) | refine Below.alloc ?_ ?_ _ | refine Below.setCell ?_ ?_ _ | refine below_drewN ?_ _ | refine Below.drew ?_ | refine below_via (by assumption) ?_ ?_) | (first | (with_reducible assumption) | omega | (simp only [szW] <;> omega) | (simp <;> omega))))
  go_wp2_with fail
  refine (MB.out _ (by (repeat (first | with_reducible (first | exact Below.refl _ _ | assumption | exact Hid.out (by assumption) | refine Below.alloc ?_ ?_ _ | refine Below.setCell ?_ ?_ _ | refine below_drewN ?_ _ | refine Below.drew ?_ | refine below_via (by assumption) ?_ ?_) | (first | (with_reducible assumption) | omega | (simp only [szW] <;> omega) | (simp <;> omega)))))).mono ?_
  rintro e w2 ⟨rfl, hb2⟩
  have hz_w2 := hb2.size
  try simp only [World.size_alloc, World.size_setCell] at hz_w2
  have hB2 : Below w.heap.size w w2 := by (repeat (first | with_reducible (first | exact Below.refl _ _ | assumption | exact Hid.out (by assumption) | refine Below.alloc ?_ ?_ _ | refine Below.setCell ?_ ?_ _ | refine below_drewN ?_ _ | refine Below.drew ?_ | refine below_via (by assumption) ?_ ?_) | (first | (with_reducible assumption) | omega | (simp only [szW] <;> omega) | (simp <;> omega))))
  go_wp2
  go_ret3
  exact ⟨rfl, hB2⟩

theorem Turned20_no3 (aseg : Int) (awa aka ava aca : Option Addr) (awc akc avc acc alw alk alv alc : Nat) (alaid : Int) (bseg : Int) (bwa bka bva bca : Option Addr) (bwc bkc bvc bcc blw blk blv blc : Nat) (blaid : Int) (w : World) (MA : Hid (∀ W, Below w.heap.size w W → Calls Try.prog 35 #[.agg #[.int .i64 aseg, .slice awa alw awc, .slice aka alk akc, .slice ava alv avc, .slice aca alc acc, .int .u64 alaid]] W (AnsB W (.bool true)))) (MB : Hid (∀ W, Below w.heap.size w W → Calls Try.prog 35 #[.agg #[.int .i64 bseg, .slice bwa blw bwc, .slice bka blk bkc, .slice bva blv bvc, .slice bca blc bcc, .int .u64 blaid]] W (AnsB W (.bool true)))) (FI : Hid (∀ W, Calls Try.prog 36 #[.agg #[.int .i64 aseg, .slice awa alw awc, .slice aka alk akc, .slice ava alv avc, .slice aca alc acc, .int .u64 alaid], .agg #[.int .i64 bseg, .slice bwa blw bwc, .slice bka blk bkc, .slice bva blv bvc, .slice bca blc bcc, .int .u64 blaid]] W (AnsB W (.bool false)))) :
    Calls Try.prog 14 #[.agg #[.int .i64 aseg, .slice awa alw awc, .slice aka alk akc, .slice ava alv avc, .slice aca alc acc, .int .u64 alaid], .agg #[.int .i64 bseg, .slice bwa blw bwc, .slice bka blk bkc, .slice bva blv bvc, .slice bca blc bcc, .int .u64 blaid]] w (AnsB w (.tuple #[.int .i64 0, .int .i64 0, .int .i64 2])) := by
  go_enter Try.func14, Try.ntmps14
  go_wp2_with fail
  refine (MA.out _ (by (repeat (first | with_reducible (first | exact Below.refl _ _ | assumption | exact Hid.out (by assumption) | refine Below.alloc ?_ ?_ _ | refine Below.setCell ?_ ?_ _ | refine below_drewN ?_ _ | refine Below.drew ?_ | refine below_via (by assumption) ?_ ?_) | (first | (with_reducible assumption) | omega | (simp only [szW] <;> omega) | (simp <;> omega)))))).mono ?_
  rintro e w1 ⟨rfl, hb1⟩
  have hz_w1 := hb1.size
  try simp only [World.size_alloc, World.size_setCell] at hz_w1
  have all_c : w1.cell? ⟨w.heap.size, 0, none⟩ = some (.int .i64 aseg) ∧ w1.cell? ⟨w.heap.size, 1, none⟩ = some (.slice awa alw awc) ∧ w1.cell? ⟨w.heap.size, 2, none⟩ = some (.slice aka alk akc) ∧ w1.cell? ⟨w.heap.size, 3, none⟩ = some (.slice ava alv avc) ∧ w1.cell? ⟨w.heap.size, 4, none⟩ = some (.slice aca alc acc) ∧ w1.cell? ⟨w.heap.size, 5, none⟩ = some (.int .u64 alaid) ∧ w1.cell? ⟨w.heap.size + 1, 0, none⟩ = some (.int .i64 bseg) ∧ w1.cell? ⟨w.heap.size + 1, 1, none⟩ = some (.slice bwa blw bwc) ∧ w1.cell? ⟨w.heap.size + 1, 2, none⟩ = some (.slice bka blk bkc) ∧ w1.cell? ⟨w.heap.size + 1, 3, none⟩ = some (.slice bva blv bvc) ∧ w1.cell? ⟨w.heap.size + 1, 4, none⟩ = some (.slice bca blc bcc) ∧ w1.cell? ⟨w.heap.size + 1, 5, none⟩ = some (.int .u64 blaid) := by refine ⟨?_, ?_, ?_, ?_, ?_, ?_, ?_, ?_, ?_, ?_, ?_, ?_⟩ <;> (refine (hb1.cell ?_).trans ?_ <;> first | (first | (with_reducible assumption) | omega | (simp only [szW] <;> omega) | (simp <;> omega)) | (first | (with_reducible assumption) | ((try simp (disch := first | omega | (simp only [szW] <;> omega) | fail) only [ceW]) <;> first | (with_reducible assumption) | rfl)))
  have all_z : w.heap.size < w1.heap.size ∧ w.heap.size + 1 < w1.heap.size := by refine ⟨?_, ?_⟩ <;> (omega)
  obtain ⟨c_a0, c_a1, c_a2, c_a3, c_a4, c_a5, c_b0, c_b1, c_b2, c_b3, c_b4, c_b5⟩ := all_c
  try clear all_c
  obtain ⟨z_a, z_b⟩ := all_z
  try clear all_z
  have hB1 : Below w.heap.size w w1 := by (repeat (first | with_reducible (first | exact Below.refl _ _ | assumption | exact Hid.out (by assumption) | refine Below.alloc ?_ ?_ _ | refine Below.setCell ?_ ?_ _ | refine below_drewN ?_ _ | refine Below.drew ?_ | refine below_via (by assumption) ?_ ?_) | (first | (with_reducible assumption) | omega | (simp only [szW] <;> omega) | (simp <;> omega))))
  go_wp2_with fail
  refine (MB.out _ (by (repeat (first | with_reducible (first | exact Below.refl _ _ | assumption | exact Hid.out (by assumption) | refine Below.alloc ?_ ?_ _ | refine Below.setCell ?_ ?_ _ | refine below_drewN ?_ _ | refine Below.drew ?_ | refine below_via (by assumption) ?_ ?_) | (first | (with_reducible assumption) | omega | (simp only [szW] <;> omega) | (simp <;> omega)))))).mono ?_
  rintro e w2 ⟨rfl, hb2⟩
  have hz_w2 := hb2.size
  try simp only [World.size_alloc, World.size_setCell] at hz_w2
  have all_c : w2.cell? ⟨w.heap.size, 0, none⟩ = some (.int .i64 aseg) ∧ w2.cell? ⟨w.heap.size, 1, none⟩ = some (.slice awa alw awc) ∧ w2.cell? ⟨w.heap.size, 2, none⟩ = some (.slice aka alk akc) ∧ w2.cell? ⟨w.heap.size, 3, none⟩ = some (.slice ava alv avc) ∧ w2.cell? ⟨w.heap.size, 4, none⟩ = some (.slice aca alc acc) ∧ w2.cell? ⟨w.heap.size, 5, none⟩ = some (.int .u64 alaid) ∧ w2.cell? ⟨w.heap.size + 1, 0, none⟩ = some (.int .i64 bseg) ∧ w2.cell? ⟨w.heap.size + 1, 1, none⟩ = some (.slice bwa blw bwc) ∧ w2.cell? ⟨w.heap.size + 1, 2, none⟩ = some (.slice bka blk bkc) ∧ w2.cell? ⟨w.heap.size + 1, 3, none⟩ = some (.slice bva blv bvc) ∧ w2.cell? ⟨w.heap.size + 1, 4, none⟩ = some (.slice bca blc bcc) ∧ w2.cell? ⟨w.heap.size + 1, 5, none⟩ = some (.int .u64 blaid) := by refine ⟨?_, ?_, ?_, ?_, ?_, ?_, ?_, ?_, ?_, ?_, ?_, ?_⟩ <;> (refine (hb2.cell ?_).trans ?_ <;> first | (first | (with_reducible assumption) | omega | (simp only [szW] <;> omega) | (simp <;> omega)) | (first | (with_reducible assumption) | ((try simp (disch := first | omega | (simp only [szW] <;> omega) | fail) only [ceW]) <;> first | (with_reducible assumption) | rfl)))
  have all_z : w.heap.size < w2.heap.size ∧ w.heap.size + 1 < w2.heap.size := by refine ⟨?_, ?_⟩ <;> (omega)
  clear c_a0 c_a1 c_a2 c_a3 c_a4 c_a5 c_b0 c_b1 c_b2 c_b3 c_b4 c_b5 z_a z_b
  obtain ⟨c_a0, c_a1, c_a2, c_a3, c_a4, c_a5, c_b0, c_b1, c_b2, c_b3, c_b4, c_b5⟩ := all_c
  try clear all_c
  obtain ⟨z_a, z_b⟩ := all_z
  try clear all_z
  have hB2 : Below w.heap.size w w2 := by (repeat (first | with_reducible (first | exact Below.refl _ _ | assumption | exact Hid.out (by assumption) | refine Below.alloc ?_ ?_ _ | refine Below.setCell ?_ ?_ _ | refine below_drewN ?_ _ | refine Below.drew ?_ | refine below_via (by assumption) ?_ ?_) | (first | (with_reducible assumption) | omega | (simp only [szW] <;> omega) | (simp <;> omega))))
  go_wp2_with fail
  refine (FI.out _).mono ?_
  rintro e w3 ⟨rfl, hb3⟩
  have hz_w3 := hb3.size
  try simp only [World.size_alloc, World.size_setCell] at hz_w3
  have hB3 : Below w.heap.size w w3 := by (repeat (first | with_reducible (first | exact Below.refl _ _ | assumption | exact Hid.out (by assumption) | refine Below.alloc ?_ ?_ _ | refine Below.setCell ?_ ?_ _ | refine below_drewN ?_ _ | refine Below.drew ?_ | refine below_via (by assumption) ?_ ?_) | (first | (with_reducible assumption) | omega | (simp only [szW] <;> omega) | (simp <;> omega))))
  go_wp2
  go_ret3
  exact ⟨rfl, hB3⟩

theorem Turned20_yes (aseg : Int) (awa aka ava aca : Option Addr) (awc akc avc acc alw alk alv alc : Nat) (alaid : Int) (bseg : Int) (bwa bka bva bca : Option Addr) (bwc bkc bvc bcc blw blk blv blc : Nat) (blaid : Int) (w : World) (f t : Nat) (MA : Hid (∀ W, Below w.heap.size w W → Calls Try.prog 35 #[.agg #[.int .i64 aseg, .slice awa alw awc, .slice aka alk akc, .slice ava alv avc, .slice aca alc acc, .int .u64 alaid]] W (AnsB W (.bool true)))) (MB : Hid (∀ W, Below w.heap.size w W → Calls Try.prog 35 #[.agg #[.int .i64 bseg, .slice bwa blw bwc, .slice bka blk bkc, .slice bva blv bvc, .slice bca blc bcc, .int .u64 blaid]] W (AnsB W (.bool true)))) (FI : Hid (∀ W, Calls Try.prog 36 #[.agg #[.int .i64 aseg, .slice awa alw awc, .slice aka alk akc, .slice ava alv avc, .slice aca alc acc, .int .u64 alaid], .agg #[.int .i64 bseg, .slice bwa blw bwc, .slice bka blk bkc, .slice bva blv bvc, .slice bca blc bcc, .int .u64 blaid]] W (AnsB W (.bool true)))) (BE : Hid (∀ W, Below w.heap.size w W → Calls Try.prog 37 #[.agg #[.int .i64 aseg, .slice awa alw awc, .slice aka alk akc, .slice ava alv avc, .slice aca alc acc, .int .u64 alaid], .agg #[.int .i64 bseg, .slice bwa blw bwc, .slice bka blk bkc, .slice bva blv bvc, .slice bca blc bcc, .int .u64 blaid]] W (AnsB W (.tuple #[.int .i64 f, .int .i64 t])))) :
    Calls Try.prog 14 #[.agg #[.int .i64 aseg, .slice awa alw awc, .slice aka alk akc, .slice ava alv avc, .slice aca alc acc, .int .u64 alaid], .agg #[.int .i64 bseg, .slice bwa blw bwc, .slice bka blk bkc, .slice bva blv bvc, .slice bca blc bcc, .int .u64 blaid]] w (AnsB w (.tuple #[.int .i64 f, .int .i64 t, .int .i64 0])) := by
  go_enter Try.func14, Try.ntmps14
  go_wp2_with fail
  refine (MA.out _ (by (repeat (first | with_reducible (first | exact Below.refl _ _ | assumption | exact Hid.out (by assumption) | refine Below.alloc ?_ ?_ _ | refine Below.setCell ?_ ?_ _ | refine below_drewN ?_ _ | refine Below.drew ?_ | refine below_via (by assumption) ?_ ?_) | (first | (with_reducible assumption) | omega | (simp only [szW] <;> omega) | (simp <;> omega)))))).mono ?_
  rintro e w1 ⟨rfl, hb1⟩
  have hz_w1 := hb1.size
  try simp only [World.size_alloc, World.size_setCell] at hz_w1
  have all_c : w1.cell? ⟨w.heap.size, 0, none⟩ = some (.int .i64 aseg) ∧ w1.cell? ⟨w.heap.size, 1, none⟩ = some (.slice awa alw awc) ∧ w1.cell? ⟨w.heap.size, 2, none⟩ = some (.slice aka alk akc) ∧ w1.cell? ⟨w.heap.size, 3, none⟩ = some (.slice ava alv avc) ∧ w1.cell? ⟨w.heap.size, 4, none⟩ = some (.slice aca alc acc) ∧ w1.cell? ⟨w.heap.size, 5, none⟩ = some (.int .u64 alaid) ∧ w1.cell? ⟨w.heap.size + 1, 0, none⟩ = some (.int .i64 bseg) ∧ w1.cell? ⟨w.heap.size + 1, 1, none⟩ = some (.slice bwa blw bwc) ∧ w1.cell? ⟨w.heap.size + 1, 2, none⟩ = some (.slice bka blk bkc) ∧ w1.cell? ⟨w.heap.size + 1, 3, none⟩ = some (.slice bva blv bvc) ∧ w1.cell? ⟨w.heap.size + 1, 4, none⟩ = some (.slice bca blc bcc) ∧ w1.cell? ⟨w.heap.size + 1, 5, none⟩ = some (.int .u64 blaid) := by refine ⟨?_, ?_, ?_, ?_, ?_, ?_, ?_, ?_, ?_, ?_, ?_, ?_⟩ <;> (refine (hb1.cell ?_).trans ?_ <;> first | (first | (with_reducible assumption) | omega | (simp only [szW] <;> omega) | (simp <;> omega)) | (first | (with_reducible assumption) | ((try simp (disch := first | omega | (simp only [szW] <;> omega) | fail) only [ceW]) <;> first | (with_reducible assumption) | rfl)))
  have all_z : w.heap.size < w1.heap.size ∧ w.heap.size + 1 < w1.heap.size := by refine ⟨?_, ?_⟩ <;> (omega)
  obtain ⟨c_a0, c_a1, c_a2, c_a3, c_a4, c_a5, c_b0, c_b1, c_b2, c_b3, c_b4, c_b5⟩ := all_c
  try clear all_c
  obtain ⟨z_a, z_b⟩ := all_z
  try clear all_z
  have hB1 : Below w.heap.size w w1 := by (repeat (first | with_reducible (first | exact Below.refl _ _ | assumption | exact Hid.out (by assumption) | refine Below.alloc ?_ ?_ _ | refine Below.setCell ?_ ?_ _ | refine below_drewN ?_ _ | refine Below.drew ?_ | refine below_via (by assumption) ?_ ?_) | (first | (with_reducible assumption) | omega | (simp only [szW] <;> omega) | (simp <;> omega))))
  go_wp2_with fail
  refine (MB.out _ (by (repeat (first | with_reducible (first | exact Below.refl _ _ | assumption | exact Hid.out (by assumption) | refine Below.alloc ?_ ?_ _ | refine Below.setCell ?_ ?_ _ | refine below_drewN ?_ _ | refine Below.drew ?_ | refine below_via (by assumption) ?_ ?_) | (first | (with_reducible assumption) | omega | (simp only [szW] <;> omega) | (simp <;> omega)))))).mono ?_
  rintro e w2 ⟨rfl, hb2⟩
  have hz_w2 := hb2.size
  try simp only [World.size_alloc, World.size_setCell] at hz_w2
  have all_c : w2.cell? ⟨w.heap.size, 0, none⟩ = some (.int .i64 aseg) ∧ w2.cell? ⟨w.heap.size, 1, none⟩ = some (.slice awa alw awc) ∧ w2.cell? ⟨w.heap.size, 2, none⟩ = some (.slice aka alk akc) ∧ w2.cell? ⟨w.heap.size, 3, none⟩ = some (.slice ava alv avc) ∧ w2.cell? ⟨w.heap.size, 4, none⟩ = some (.slice aca alc acc) ∧ w2.cell? ⟨w.heap.size, 5, none⟩ = some (.int .u64 alaid) ∧ w2.cell? ⟨w.heap.size + 1, 0, none⟩ = some (.int .i64 bseg) ∧ w2.cell? ⟨w.heap.size + 1, 1, none⟩ = some (.slice bwa blw bwc) ∧ w2.cell? ⟨w.heap.size + 1, 2, none⟩ = some (.slice bka blk bkc) ∧ w2.cell? ⟨w.heap.size + 1, 3, none⟩ = some (.slice bva blv bvc) ∧ w2.cell? ⟨w.heap.size + 1, 4, none⟩ = some (.slice bca blc bcc) ∧ w2.cell? ⟨w.heap.size + 1, 5, none⟩ = some (.int .u64 blaid) := by refine ⟨?_, ?_, ?_, ?_, ?_, ?_, ?_, ?_, ?_, ?_, ?_, ?_⟩ <;> (refine (hb2.cell ?_).trans ?_ <;> first | (first | (with_reducible assumption) | omega | (simp only [szW] <;> omega) | (simp <;> omega)) | (first | (with_reducible assumption) | ((try simp (disch := first | omega | (simp only [szW] <;> omega) | fail) only [ceW]) <;> first | (with_reducible assumption) | rfl)))
  have all_z : w.heap.size < w2.heap.size ∧ w.heap.size + 1 < w2.heap.size := by refine ⟨?_, ?_⟩ <;> (omega)
  clear c_a0 c_a1 c_a2 c_a3 c_a4 c_a5 c_b0 c_b1 c_b2 c_b3 c_b4 c_b5 z_a z_b
  obtain ⟨c_a0, c_a1, c_a2, c_a3, c_a4, c_a5, c_b0, c_b1, c_b2, c_b3, c_b4, c_b5⟩ := all_c
  try clear all_c
  obtain ⟨z_a, z_b⟩ := all_z
  try clear all_z
  have hB2 : Below w.heap.size w w2 := by (repeat (first | with_reducible (first | exact Below.refl _ _ | assumption | exact Hid.out (by assumption) | refine Below.alloc ?_ ?_ _ | refine Below.setCell ?_ ?_ _ | refine below_drewN ?_ _ | refine Below.drew ?_ | refine below_via (by assumption) ?_ ?_) | (first | (with_reducible assumption) | omega | (simp only [szW] <;> omega) | (simp <;> omega))))
  go_wp2_with fail
  refine (FI.out _).mono ?_
  rintro e w3 ⟨rfl, hb3⟩
  have hz_w3 := hb3.size
  try simp only [World.size_alloc, World.size_setCell] at hz_w3
  have all_c : w3.cell? ⟨w.heap.size, 0, none⟩ = some (.int .i64 aseg) ∧ w3.cell? ⟨w.heap.size, 1, none⟩ = some (.slice awa alw awc) ∧ w3.cell? ⟨w.heap.size, 2, none⟩ = some (.slice aka alk akc) ∧ w3.cell? ⟨w.heap.size, 3, none⟩ = some (.slice ava alv avc) ∧ w3.cell? ⟨w.heap.size, 4, none⟩ = some (.slice aca alc acc) ∧ w3.cell? ⟨w.heap.size, 5, none⟩ = some (.int .u64 alaid) ∧ w3.cell? ⟨w.heap.size + 1, 0, none⟩ = some (.int .i64 bseg) ∧ w3.cell? ⟨w.heap.size + 1, 1, none⟩ = some (.slice bwa blw bwc) ∧ w3.cell? ⟨w.heap.size + 1, 2, none⟩ = some (.slice bka blk bkc) ∧ w3.cell? ⟨w.heap.size + 1, 3, none⟩ = some (.slice bva blv bvc) ∧ w3.cell? ⟨w.heap.size + 1, 4, none⟩ = some (.slice bca blc bcc) ∧ w3.cell? ⟨w.heap.size + 1, 5, none⟩ = some (.int .u64 blaid) := by refine ⟨?_, ?_, ?_, ?_, ?_, ?_, ?_, ?_, ?_, ?_, ?_, ?_⟩ <;> (refine (hb3.cell ?_).trans ?_ <;> first | (first | (with_reducible assumption) | omega | (simp only [szW] <;> omega) | (simp <;> omega)) | (first | (with_reducible assumption) | ((try simp (disch := first | omega | (simp only [szW] <;> omega) | fail) only [ceW]) <;> first | (with_reducible assumption) | rfl)))
  have all_z : w.heap.size < w3.heap.size ∧ w.heap.size + 1 < w3.heap.size := by refine ⟨?_, ?_⟩ <;> (omega)
  clear c_a0 c_a1 c_a2 c_a3 c_a4 c_a5 c_b0 c_b1 c_b2 c_b3 c_b4 c_b5 z_a z_b
  obtain ⟨c_a0, c_a1, c_a2, c_a3, c_a4, c_a5, c_b0, c_b1, c_b2, c_b3, c_b4, c_b5⟩ := all_c
  try clear all_c
  obtain ⟨z_a, z_b⟩ := all_z
  try clear all_z
  have hB3 : Below w.heap.size w w3 := by (repeat (first | with_reducible (first | exact Below.refl _ _ | assumption | exact Hid.out (by assumption) | refine Below.alloc ?_ ?_ _ | refine Below.setCell ?_ ?_ _ | refine below_drewN ?_ _ | refine Below.drew ?_ | refine below_via (by assumption) ?_ ?_) | (first | (with_reducible assumption) | omega | (simp only [szW] <;> omega) | (simp <;> omega))))
  go_wp2_with fail
  refine (BE.out _ (by (repeat (first | with_reducible (first | exact Below.refl _ _ | assumption | exact Hid.out (by assumption) | refine Below.alloc ?_ ?_ _ | refine Below.setCell ?_ ?_ _ | refine below_drewN ?_ _ | refine Below.drew ?_ | refine below_via (by assumption) ?_ ?_) | (first | (with_reducible assumption) | omega | (simp only [szW] <;> omega) | (simp <;> omega)))))).mono ?_
  rintro e w4 ⟨rfl, hb4⟩
  have hz_w4 := hb4.size
  try simp only [World.size_alloc, World.size_setCell] at hz_w4
  have hB4 : Below w.heap.size w w4 := by (repeat (first | with_reducible (first | exact Below.refl _ _ | assumption | exact Hid.out (by assumption) | refine Below.alloc ?_ ?_ _ | refine Below.setCell ?_ ?_ _ | refine below_drewN ?_ _ | refine Below.drew ?_ | refine below_via (by assumption) ?_ ?_) | (first | (with_reducible assumption) | omega | (simp only [szW] <;> omega) | (simp <;> omega))))
  go_wp2
  go_ret3
  exact ⟨rfl, hB4⟩

theorem Turned20_ok (c d : SlC) (a b : SlA) (hl : c.ws.length ≤ 1000000000000) (hl2 : c.ks.length ≤ 1000000000000) (hl' : d.ws.length ≤ 1000000000000) (hl2' : d.ks.length ≤ 1000000000000) (w : World) (hc : SlIn w c a) (hd : SlIn w d b) :
    Calls Try.prog 14 #[slV c a, slV d b] w (AnsB w (.tuple #[.int .i64 (tuV c d).1, .int .i64 (tuV c d).2.1, .int .i64 (tuV c d).2.2])) := by
  have MA := Lib.hid (fun W (hb : Below w.heap.size w W) => May04_ok c a hl hl2 W (hc.below hb))
  have MB := Lib.hid (fun W (hb : Below w.heap.size w W) => May04_ok d b hl' hl2' W (hd.below hb))
  cases h1 : slMay c with
  | false =>
    rw [h1] at MA
    have e : tuE c d = 8 := by rw [tuE, if_neg (by rw [h1]; decide)]
    rw [show tuV c d = (0, 0, 8) by unfold tuV; rw [if_neg (by rw [e]; decide), e]]
    exact Turned20_no1 _ _ _ _ _ _ _ _ _ _ _ _ _ _ _ _ _ _ _ _ _ _ _ _ _ _ _ _ w MA
  | true =>
    rw [h1] at MA
    cases h2 : slMay d with
    | false =>
      rw [h2] at MB
      have e : tuE c d = 8 := by rw [tuE, if_pos h1, if_neg (by rw [h2]; decide)]
      rw [show tuV c d = (0, 0, 8) by unfold tuV; rw [if_neg (by rw [e]; decide), e]]
      exact Turned20_no2 _ _ _ _ _ _ _ _ _ _ _ _ _ _ _ _ _ _ _ _ _ _ _ _ _ _ _ _ w MA MB
    | true =>
      rw [h2] at MB
      have FI := Lib.hid (fun W => fits20_ok c.seg a.wa a.ka a.va a.ca a.wc a.kc a.vc a.cc c.ws.length c.ks.length c.vs.length c.cs.length c.laid d.seg b.wa b.ka b.va b.ca b.wc b.kc b.vc b.cc d.ws.length d.ks.length d.vs.length d.cs.length d.laid W)
      by_cases h3 : c.seg = d.seg ∧ c.ks.length = d.ks.length
      · rw [show (decide (c.seg = d.seg) && decide (c.ks.length = d.ks.length)) = true by simp [h3.1, h3.2]] at FI
        obtain ⟨S, M, hS, hS4, hS64, hnk, hnv, hcs, hM1, hSM, -, hnw, -, -, -⟩ := slHead_facts (slMay_head h1)
        obtain ⟨S', M', hS', hS4', hS64', hnk', hnv', hcs', hM1', hSM', -, hnw', -, -, -⟩ := slHead_facts (slMay_head h2)
        have eS : S' = S := by have := h3.1; omega
        subst eS
        have eM : M' = M := Nat.eq_of_mul_eq_mul_left (by omega : 0 < S') (by have := h3.2; omega)
        subst eM
        have e : tuE c d = 0 := by rw [tuE, if_pos h1, if_pos h2, if_pos h3]
        rw [show tuV c d = (((tuF c d S' M' : Nat) : Int), ((tuT c d S' M' : Nat) : Int), 0) by unfold tuV; rw [if_pos e, hcs, show c.seg.toNat = S' by omega]]
        have BE := Lib.hid (fun W (hb : Below w.heap.size w W) => Between20_core c.seg a.wa a.ka a.va a.ca a.wc a.kc a.vc a.cc c.ws.length c.ks.length c.vs.length c.cs.length c.laid d.seg b.wa b.ka b.va b.ca b.wc b.kc b.vc b.cc d.ws.length d.ks.length d.vs.length d.cs.length d.laid W M' (alkB c d S') (bF c d S' M') (bT c d S' M') (by
            have : M' * 1 ≤ M' * S' := Nat.mul_le_mul_left _ (by omega)
            rw [Nat.mul_comm M' S'] at this
            omega) hcs bF_last bT_last (Lib.hid fun i hi => ⟨bF_step hi, bT_step hi⟩)
          (Lib.hid fun k hk W' hb' => Alike20_ok S' M' k c d a b W' ((hc.below hb).below hb') ((hd.below hb).below hb') hS4 hS64 hSM hS hS' hnk hnk' hnv hnv' hnw hnw' hk))
        rw [bF_first, bT_first] at BE
        exact Turned20_yes _ _ _ _ _ _ _ _ _ _ _ _ _ _ _ _ _ _ _ _ _ _ _ _ _ _ _ _ w _ _ MA MB FI BE
      · rw [show (decide (c.seg = d.seg) && decide (c.ks.length = d.ks.length)) = false by
          rw [Bool.eq_false_iff]
          intro h
          simp only [Bool.and_eq_true, decide_eq_true_eq] at h
          exact h3 h] at FI
        have e : tuE c d = 2 := by rw [tuE, if_pos h1, if_pos h2, if_neg h3]
        rw [show tuV c d = (0, 0, 2) by unfold tuV; rw [if_neg (by rw [e]; decide), e]]
        exact Turned20_no3 _ _ _ _ _ _ _ _ _ _ _ _ _ _ _ _ _ _ _ _ _ _ _ _ _ _ _ _ w MA MB FI
end Go.Proofs.Ytbmibaafkgleeaa
