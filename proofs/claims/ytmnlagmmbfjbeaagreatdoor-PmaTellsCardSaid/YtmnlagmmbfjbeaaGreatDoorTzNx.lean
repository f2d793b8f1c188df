/- Merged: Tz, OccNx. -/
import Derived.Test.YtmnlagmmbfjbeaaGreatDoorBitsSl
import Derived.Test.YtmnlagmmbfjbeaaGreatDoorMLS
import Derived.Laws.Bits64b
import Derived.Lib.TrailingZeros
import Derived.Test.YtmnlagmmbfjbeaaGreatDoorOccAll
namespace Go.Proofs.YtmnlagmmbfjbeaaGreatDoor
set_option linter.unusedVariables false
set_option linter.unusedSimpArgs false
section
open Go.RowKit

/-- the table of package bits, in its variable -/
def TabAt (w : World) : Prop := ∀ j, j < 64 → w.cell? ⟨0, j, none⟩ = some (.int .u8 (Lib.deBruijn64tab.getD j 0))
theorem TabAt.below {w w' : World} (h : TabAt w) (hb : Below w.heap.size w w') : TabAt w' := fun j hj => (hb.cell (World.block_lt_of_cell? _ _ (h j hj))).trans (h j hj)

set_option maxHeartbeats 1000000 in
theorem tz64_core (x k idx : Nat) (w : World) (hx0 : ((x : Int) == 0) = false)
    (key : IntKind.u64.wrap (bits BinOp.and IntKind.u64 (x : Int) (IntKind.u64.wrap (-(x : Int))) * 285870213051353865) / 288230376151711744 = (idx : Int))
    (hi : idx < 64) (hk : k < 64) (hcell : w.cell? ⟨0, idx, none⟩ = some (.int .u8 k)) :
    Calls Tryz.prog 131 #[.int .u64 x] w fun e w' => e = .returned (.int .i64 k) ∧ w = w' := by
  go_enter Tryz.func131, Tryz.ntmps131
  go_wp2_with (simp only [key])
  go_ret
  exact ⟨rfl, rfl⟩
theorem tz64_key (x a : Nat) (hx : x < 18446744073709551616) (hx0 : x ≠ 0) (hlow : x &&& (18446744073709551616 - x) = a) :
    IntKind.u64.wrap (bits BinOp.and IntKind.u64 (x : Int) (IntKind.u64.wrap (-(x : Int))) * 285870213051353865) / 288230376151711744 = ((a * 285870213051353865 % 18446744073709551616 / 288230376151711744 : Nat) : Int) := by
  have e1 : IntKind.u64.wrap (-(x : Int)) = ((18446744073709551616 - x : Nat) : Int) := by rw [IntKind.wrap_u64]; omega
  rw [e1, bits_and_u64_nat x _ hx (by omega), hlow, IntKind.wrap_u64]
  omega
/-- the number of the first bit -/
def tzI (x : Int) : Nat := Lib.ctz 64 x.toNat
theorem tz_ok (x : Int) (h0 : 0 ≤ x) (h1 : x < 18446744073709551616) (hx : x ≠ 0) (w : World) (hT : TabAt w) :
    Calls Tryz.prog 131 #[.int .u64 x] w fun e w' => e = .returned (.int .i64 (tzI x)) ∧ w = w' := by
  obtain ⟨n, rfl⟩ : ∃ n : Nat, x = n := ⟨x.toNat, by omega⟩
  have hn0 : n ≠ 0 := by omega
  obtain ⟨hlow, hk⟩ := Lib.lowest_bit 64 n hn0 (by omega)
  obtain ⟨hi, htab⟩ := Lib.deBruijn64_at _ hk
  have hcell := hT _ hi
  rw [htab] at hcell
  rw [tzI, Int.toNat_natCast]
  exact tz64_core n _ _ w (by simp; omega) (tz64_key n _ (by omega) hn0 hlow) hi hk hcell
theorem tzI_bit {x : Int} (h0 : 0 ≤ x) (h1 : x < 18446744073709551616) (hx : x ≠ 0) : tzI x < 64 ∧ bitI x (tzI x) = true ∧ ∀ j, j < tzI x → bitI x j = false := by
  obtain ⟨n, rfl⟩ : ∃ n : Nat, x = n := ⟨x.toNat, by omega⟩
  have hn0 : n ≠ 0 := by omega
  obtain ⟨m, hm, hk⟩ := Lib.ctzFrom_spec 64 n (by omega) (by omega)
  have e : tzI (n : Int) = Lib.ctzFrom 64 n := by rw [tzI, Int.toNat_natCast, Lib.ctz, if_neg hn0]
  rw [e]
  generalize Lib.ctzFrom 64 n = c at *
  refine ⟨hk, ?_, fun j hj => ?_⟩
  · rw [bitI_nat, hm, Nat.mul_comm, Nat.testBit_mul_two_pow]
    simp
  · rw [bitI_nat, hm, Nat.mul_comm, Nat.testBit_mul_two_pow]
    simp
    omega
end

section
open Go.RowKit Go.Shelf
attribute [local go_sem] Oper.semAt_some

/-- the first occupied slot from a on, ahead of n -/
def nx (ws : List Int) (a n : Nat) : Option Nat := (List.range' a (n - a)).find? (bitW ws)
theorem nx_some {ws : List Int} {a n i : Nat} : nx ws a n = some i ↔ a ≤ i ∧ i < n ∧ bitW ws i = true ∧ ∀ j, a ≤ j → j < i → bitW ws j = false := by
  rw [nx, List.find?_eq_some_iff_getElem]
  constructor
  · rintro ⟨h1, k, hk, h2, h3⟩
    rw [List.getElem_range'] at h2
    rw [List.length_range'] at hk
    refine ⟨by omega, by omega, h1, fun j j1 j2 => ?_⟩
    have := h3 (j - a) (by omega)
    rw [List.getElem_range'] at this
    rw [show a + 1 * (j - a) = j by omega] at this
    simpa using this
  · rintro ⟨h1, h2, h3, h4⟩
    refine ⟨h3, i - a, by rw [List.length_range']; omega, by rw [List.getElem_range']; omega, fun j hj => ?_⟩
    rw [List.getElem_range']
    simpa using h4 (a + 1 * j) (by omega) (by omega)
theorem nx_none {ws : List Int} {a n : Nat} : nx ws a n = none ↔ ∀ j, a ≤ j → j < n → bitW ws j = false := by
  rw [nx, List.find?_eq_none]
  constructor
  · intro h j h1 h2
    simpa using h j (List.mem_range'_1.2 ⟨h1, by omega⟩)
  · intro h j hj
    have := List.mem_range'_1.1 hj
    simpa using h j this.1 (by omega)
/-- what lies ahead of a word's slots is free -/
structure NxI (ws : List Int) (a n b0 b1 B : Nat) (w : World) (k : Nat) (W : World) : Prop where
  free : ∀ j, a ≤ j → j < 64 * (a / 64 + k) → j < n → bitW ws j = false
  box0 : W.cell? ⟨b0, 0, none⟩ = some (.int .i64 0)
  box1 : W.cell? ⟨b1, 0, none⟩ = some (.int .i64 0)
  fz0 : W.frozen? ⟨b0, 0, none⟩ = false
  fz1 : W.frozen? ⟨b1, 0, none⟩ = false
  bel : Below B w W
theorem NxI.calm {ws : List Int} {a n b0 b1 B M : Nat} {w : World} {k : Nat} {W W' : World} (h : NxI ws a n b0 b1 B w k W) (hc : Calm M W W') (hB : B ≤ M) : NxI ws a n b0 b1 B w k W' :=
  ⟨h.free, hc.cell h.box0, hc.cell h.box1, hc.frozen h.box0 h.fz0, hc.frozen h.box1 h.fz1, hc.below hB h.bel⟩
/-- found -/
structure NxX (ws : List Int) (a n b0 b1 B : Nat) (w : World) (c : Code) (W : World) : Prop where
  code : c = .ret
  hit : ∃ i, nx ws a n = some i ∧ W.cell? ⟨b0, 0, none⟩ = some (.int .i64 i)
  box1 : W.cell? ⟨b1, 0, none⟩ = some (.int .i64 0)
  bel : Below B w W
theorem NxX.calm {ws : List Int} {a n b0 b1 B M : Nat} {w : World} {c : Code} {W W' : World} (h : NxX ws a n b0 b1 B w c W) (hc : Calm M W W') (hB : B ≤ M) : NxX ws a n b0 b1 B w c W' :=
  ⟨h.code, h.hit.imp fun i hi => ⟨hi.1, hc.cell hi.2⟩, hc.cell h.box1, hc.below hB h.bel⟩
theorem nx_hit {ws : List Int} {a n k : Nat} (hu : U64s ws) (hk : k < (n + 63) / 64 - a / 64) (hf : ∀ j, a ≤ j → j < 64 * (a / 64 + k) → j < n → bitW ws j = false) (h0 : 0 ≤ cutV ws a n (a / 64 + k)) (h1 : cutV ws a n (a / 64 + k) < 18446744073709551616) (hx : cutV ws a n (a / 64 + k) ≠ 0) :
    nx ws a n = some (64 * (a / 64 + k) + tzI (cutV ws a n (a / 64 + k))) := by
  obtain ⟨t1, t2, t3⟩ := tzI_bit h0 h1 hx
  rw [cutV_bit hu (by omega) t1] at t2
  simp only [inW, Bool.and_eq_true, decide_eq_true_eq] at t2
  obtain ⟨t2, t4, t5⟩ := t2
  refine nx_some.2 ⟨t4, t5, t2, fun j j1 j2 => ?_⟩
  by_cases hj : j < 64 * (a / 64 + k)
  · exact hf j j1 hj (by omega)
  · have := t3 (j - 64 * (a / 64 + k)) (by omega)
    rw [cutV_bit hu (by omega) (by omega), show 64 * (a / 64 + k) + (j - 64 * (a / 64 + k)) = j by omega, inW] at this
    rw [decide_eq_true j1, decide_eq_true (by omega : j < n)] at this
    simpa using this
theorem nx_miss {ws : List Int} {a n k : Nat} (hu : U64s ws) (hk : k < (n + 63) / 64 - a / 64) (hf : ∀ j, a ≤ j → j < 64 * (a / 64 + k) → j < n → bitW ws j = false) (hx : cutV ws a n (a / 64 + k) = 0) :
    ∀ j, a ≤ j → j < 64 * (a / 64 + (k + 1)) → j < n → bitW ws j = false := by
  intro j j1 j2 j3
  by_cases hj : j < 64 * (a / 64 + k)
  · exact hf j j1 hj j3
  · have := cutV_bit hu (a := a) (b := n) (k := a / 64 + k) (j := j - 64 * (a / 64 + k)) (by omega) (by omega)
    rw [hx, bitI_zero, show 64 * (a / 64 + k) + (j - 64 * (a / 64 + k)) = j by omega, inW, decide_eq_true j1, decide_eq_true j3] at this
    simpa using this.symm

set_option maxRecDepth 100000 in
set_option maxHeartbeats 1000000 in
theorem Next_ok (wa : Option Addr) (wc : Nat) (ws : List Int) (hu : U64s ws) (n a : Nat) (hn : n ≤ 65536) (hl : ws.length ≤ 1000000000000) (hmay : wMayB ws n = true) (han : a ≤ n) (w : World) (hw : IsRow .u64 w wa ws) (hT : TabAt w) :
    Calls Tryz.prog 151 #[.slice wa ws.length wc, .int .i64 n, .int .i64 a] w (AnsB w (.tuple #[.int .i64 ((nx ws a n).getD 0 : Nat), .int .i64 (if (nx ws a n).isSome then 0 else 6)])) := by
  have AK := Lib.hid (fun w hw => asked_ok wa wc ws hu n hn hl hmay w hw)
  have hlen : n ≤ 64 * ws.length := by
    simp only [wMayB, Bool.and_eq_true, decide_eq_true_eq] at hmay
    omega
  have IT := Lib.hid (fun S b1 b2 b3 s1 s2 s3 sw w hw c1 c2 c3 => parts1_iter wa wc ws hu a n han hn (by omega) hl S b1 b2 b3 s1 s2 s3 sw w hw c1 c2 c3)
  have HW := Lib.hid hw
  have HT := Lib.hid hT
  have HLT := Lib.hid (fun x (h : wa = some x) (h0 : 0 < ws.length) => (show x.block < w.heap.size from by
    obtain ⟨bb, off, x', hx, -, -, hlt⟩ := hw.get h0
    rw [hx] at h
    cases h
    exact hlt))
  obtain ⟨m, hm⟩ : ∃ m, (n + 63) / 64 - a / 64 = m := ⟨_, rfl⟩
  have HP := Lib.hid (fun k (hk : k < m) => partsL_get ws (a := a) (b := n) (k := k) (by omega))
  have HPL := Lib.hid ((partsL_length ws a n).trans hm)
  have HV := Lib.hid (fun k (hk : k < m) => cutV_bd hu (a := a) (b := n) (k := a / 64 + k) (by omega))
  have HIT := Lib.hid (fun k (hk : k < m) hf h0 h1 hx => nx_hit (ws := ws) (a := a) (n := n) (k := k) hu (by omega) hf h0 h1 hx)
  have MIS := Lib.hid (fun k (hk : k < m) hf hx => nx_miss (ws := ws) (a := a) (n := n) (k := k) hu (by omega) hf hx)
  have NON := Lib.hid (fun (hf : ∀ j, a ≤ j → j < 64 * (a / 64 + m) → j < n → bitW ws j = false) => (nx_none (ws := ws) (a := a) (n := n)).2 fun j j1 j2 => hf j j1 (by omega) j2)
  have hmb : m ≤ 1024 := by omega
  have hqb : a / 64 + m ≤ 1024 := by omega
  obtain ⟨M, hM⟩ : ∃ M, ws.length = M := ⟨_, rfl⟩
  rw [hM] at hlen hl AK IT HLT ⊢
  clear hw hmay hM hu hm hT
  refine calls_of_wp_m Tryz.func151 rfl ?_
  simp only [Tryz.ntmps151, List.size_toArray, List.length_cons, List.length_nil, Nat.reduceAdd, Nat.reduceSub, Array.replicate_succ, Array.replicate_zero, List.push_toArray, List.append_toArray, List.nil_append, List.cons_append]
  obtain ⟨V, hV⟩ : ∃ V : Int, (((nx ws a n).getD 0 : Nat) : Int) = V := ⟨_, rfl⟩
  obtain ⟨E, hE⟩ : ∃ E : Int, (if (nx ws a n).isSome then (0 : Int) else 6) = E := ⟨_, rfl⟩
  rw [hV, hE]
  have YES := Lib.hid (fun i (h : nx ws a n = some i) => (show V = i ∧ E = 0 by rw [← hV, ← hE, h]; exact ⟨rfl, rfl⟩))
  have NO := Lib.hid (fun (h : nx ws a n = none) => (show V = 0 ∧ E = 6 by rw [← hV, ← hE, h]; exact ⟨rfl, rfl⟩))
  clear hV hE
  have g1 : decide ((0 : Int) ≤ a) = true := by simp
  have g2 : decide ((a : Int) ≤ n) = true := by simp; omega
  go_wp2_with fail
  refine (AK.out _ (HW.out.below (((Below.refl _ _).alloc (Nat.le_refl _) _).alloc (by simp) _))).mono ?_
  rintro e w' ⟨rfl, rfl⟩
  go_wp2_with fail
  refine (parts_ok wa M wc a n _).mono ?_
  rintro e w2 ⟨rfl, rfl⟩
  go_wp2
  refine wp_range (xs := partsL ws a n) (Kp := KpS (fun k => k ≠ w.heap.size ∧ k ≠ w.heap.size + 1 ∧ k < w.heap.size + 5)) rfl (enters_of Tryz.func149 (by kernel_rfl) rfl)
    (IT.out (fun k => k ≠ w.heap.size ∧ k ≠ w.heap.size + 1 ∧ k < w.heap.size + 5) (w.heap.size + 1 + 1) (w.heap.size + 1 + 1 + 1) (w.heap.size + 1 + 1 + 2) (by omega) (by omega) (by omega) ?sw _ ?hw ?c1 ?c2 ?c3) (Below.refl _ _) (fun _ _ _ => rfl) (fun h k => fun i hi => (k i hi).trans (h i hi)) ?kb ?ps
    (NxI ws a n w.heap.size (w.heap.size + 1) w.heap.size w) (NxX ws a n w.heap.size (w.heap.size + 1) w.heap.size w) ?hI ?hX ?h0 ?round ?done ?stop
  case sw => intro x hx h0; have := HLT.out x hx h0; omega
  case hw => exact HW.out.below (by (repeat (first | with_reducible (first | exact Below.refl _ _ | assumption | exact Hid.out (by assumption) | refine Below.alloc ?_ ?_ _ | refine Below.setCell ?_ ?_ _ | refine below_drewN ?_ _ | refine Below.drew ?_ | refine below_via (by assumption) ?_ ?_) | (first | (with_reducible assumption) | omega | (simp only [szW] <;> omega) | (simp <;> omega)))))
  case c1 => (first | (with_reducible assumption) | ((try simp (disch := first | omega | (simp only [szW] <;> omega) | fail) only [ceW]) <;> first | (with_reducible assumption) | rfl))
  case c2 => (first | (with_reducible assumption) | ((try simp (disch := first | omega | (simp only [szW] <;> omega) | fail) only [ceW]) <;> first | (with_reducible assumption) | rfl))
  case c3 => (first | (with_reducible assumption) | ((try simp (disch := first | omega | (simp only [szW] <;> omega) | fail) only [ceW]) <;> first | (with_reducible assumption) | rfl))
  case kb =>
    intro W l o o' hl _ _ k hk
    simp at hl
    exact World.putObj_heap_other (by omega)
  case ps =>
    intro x hx
    simp only [partsL, List.mem_map] at hx
    obtain ⟨k, _, rfl⟩ := hx
    rfl
  case hI =>
    intro k W W' h hc
    exact h.calm hc (by simp; omega)
  case hX =>
    intro k W W' h hc
    exact h.calm hc (by simp; omega)
  case h0 =>
    exact ⟨fun j j1 j2 => by omega, by (first | (with_reducible assumption) | ((try simp (disch := first | omega | (simp only [szW] <;> omega) | fail) only [ceW]) <;> first | (with_reducible assumption) | rfl)), by (first | (with_reducible assumption) | ((try simp (disch := first | omega | (simp only [szW] <;> omega) | fail) only [ceW]) <;> first | (with_reducible assumption) | rfl)), by (first | (with_reducible assumption) | ((try simp (disch := first | omega | (simp only [szW] <;> omega) | fail) only [ceW]) <;> first | (with_reducible assumption) | rfl)), by (first | (with_reducible assumption) | ((try simp (disch := first | omega | (simp only [szW] <;> omega) | fail) only [ceW]) <;> first | (with_reducible assumption) | rfl)), by (repeat (first | with_reducible (first | exact Below.refl _ _ | assumption | exact Hid.out (by assumption) | refine Below.alloc ?_ ?_ _ | refine Below.setCell ?_ ?_ _ | refine below_drewN ?_ _ | refine Below.drew ?_ | refine below_via (by assumption) ?_ ?_) | (first | (with_reducible assumption) | omega | (simp only [szW] <;> omega) | (simp <;> omega))))⟩
  case round =>
    intro l k W hl hk hi
    rw [HPL.out] at hk
    rw [HP.out k hk]
    have hv := HV.out k hk
    have HI := Lib.hid (fun hf => HIT.out k hk hf hv.1 hv.2)
    have MI := Lib.hid (fun hf => MIS.out k hk hf)
    have T1 := Lib.hid (fun (hx : cutV ws a n (a / 64 + k) ≠ 0) W hT => tz_ok _ hv.1 hv.2 hx W hT)
    have T2 := Lib.hid (fun (hx : cutV ws a n (a / 64 + k) ≠ 0) => (tzI_bit hv.1 hv.2 hx).1)
    generalize cutV ws a n (a / 64 + k) = x at *
    gi_wp2
    refine ⟨rfl, ?_⟩
    intro W2 hi2
    have hb0 := hi2.box0
    have hb1 := hi2.box1
    have hf0 := hi2.fz0
    have hf1 := hi2.fz1
    have HFR := Lib.hid hi2.free
    have HBL := Lib.hid hi2.bel
    have hkq : a / 64 + k ≤ 1024 := by omega
    by_cases hx : x = 0
    · subst hx
      have MM := Lib.hid (MI.out HFR.out rfl)
      clear hi hi2 HI MI T1 T2
      gi_wp2
      exact ⟨KeepsOthers.refl _, fun _ _ => rfl, ⟨MM.out, hb0, hb1, hf0, hf1, HBL.out⟩⟩
    · have hx2 : (x != 0) = true := by simpa using hx
      have HH := Lib.hid (HI.out HFR.out hx)
      have TT := Lib.hid (T1.out hx W2 (HT.out.below HBL.out))
      have T3 := T2.out hx
      generalize tzI x = t at *
      have HE : Hid (((64 * (a / 64 + k) + t : Nat) : Int) = 64 * ((a : Int) / 64 + k) + t) := Lib.hid (by push_cast; rfl)
      clear hi hi2 HI MI T1 T2 hx
      gi_wp2_with fail
      refine ⟨trivial, rfl, (callsIn_wide.2 TT.out).mono ?_⟩
      rintro e w' ⟨rfl, rfl⟩
      gi_wp2
      refine ⟨(KeepsOthers.setCell W2 ⟨w.heap.size, 0, none⟩ _).trans (KeepsOthers.setCell _ ⟨w.heap.size + 1, 0, none⟩ _), ⟨rfl, ⟨_, HH.out, ?_⟩, ?_, ?_⟩⟩
      · rw [HE.out, World.cell?_setCell_other _ _ _ _ (by intro e; simp at e)]
        exact World.cell?_setCell_same _ _ _ hb0
      · exact World.cell?_setCell_same _ _ _ (by rw [World.cell?_setCell_other _ _ _ _ (by intro e; simp at e)]; exact hb1)
      · exact (HBL.out.setCell (by dsimp only; omega) _).setCell (by dsimp only; omega) _
  case done =>
    intro D W hD hi hK
    have hb0 := hi.box0
    have hb1 := hi.box1
    have hf0 := hi.fz0
    have hf1 := hi.fz1
    have hfr := hi.free
    have hbl := hi.bel
    rw [HPL.out] at hfr
    obtain ⟨rfl, rfl⟩ := NO.out (NON.out hfr)
    simp at hD
    have HBL := Lib.hid hbl
    clear hi hfr hbl YES NO NON HIT MIS HV HP
    go_wp2
    have hK2 : ((W.setCell ⟨w.heap.size, 0, none⟩ (.int .i64 0)).setCell ⟨w.heap.size + 1, 0, none⟩ (.int .i64 6)).heap[D]? = some (.deferred (some [])) := ((Below.heap_setCell _ _ _ _ (by show D ≠ w.heap.size + 1; omega)).trans (Below.heap_setCell _ _ _ _ (by show D ≠ w.heap.size; omega))).trans hK
    have hcalm : Calm (w.heap.size + 2) ((W.setCell ⟨w.heap.size, 0, none⟩ (.int .i64 0)).setCell ⟨w.heap.size + 1, 0, none⟩ (.int .i64 6)) (((W.setCell ⟨w.heap.size, 0, none⟩ (.int .i64 0)).setCell ⟨w.heap.size + 1, 0, none⟩ (.int .i64 6)).putObj D (.deferred none)) := Calm.putObj _ (by omega) hK2 rfl
    have c0 : ((W.setCell ⟨w.heap.size, 0, none⟩ (.int .i64 0)).setCell ⟨w.heap.size + 1, 0, none⟩ (.int .i64 6)).cell? ⟨w.heap.size, 0, none⟩ = some (.int .i64 0) := by
      rw [World.cell?_setCell_other _ _ _ _ (by intro e; simp at e)]
      exact World.cell?_setCell_same _ _ _ hb0
    have c1 : ((W.setCell ⟨w.heap.size, 0, none⟩ (.int .i64 0)).setCell ⟨w.heap.size + 1, 0, none⟩ (.int .i64 6)).cell? ⟨w.heap.size + 1, 0, none⟩ = some (.int .i64 6) := World.cell?_setCell_same _ _ _ (by rw [World.cell?_setCell_other _ _ _ _ (by intro e; simp at e)]; exact hb1)
    exact postM_one hK2 (results_cc rfl rfl rfl (run_loadVar_one Tryz.underlying3 rfl (hcalm.cell c0)) (run_loadVar_one Tryz.underlying34 rfl (hcalm.cell c1))) ⟨rfl, hcalm.below (by omega) ((HBL.out.setCell (by dsimp only; omega) _).setCell (by dsimp only; omega) _)⟩
  case stop =>
    intro D c W hD hX hK
    obtain ⟨rfl, ⟨i, hnx, hc0⟩, hc1, hbel⟩ := hX
    obtain ⟨rfl, rfl⟩ := YES.out i hnx
    simp at hD
    have hcalm : Calm (w.heap.size + 2) W (W.putObj D (.deferred none)) := Calm.putObj _ (by omega) hK rfl
    clear YES NO NON HIT MIS HV HP
    go_wp2
    exact postM_one hK (results_cc rfl rfl rfl (run_loadVar_one Tryz.underlying3 rfl (hcalm.cell hc0)) (run_loadVar_one Tryz.underlying34 rfl (hcalm.cell hc1))) ⟨rfl, hcalm.below (by omega) hbel⟩
end
end Go.Proofs.YtmnlagmmbfjbeaaGreatDoor
