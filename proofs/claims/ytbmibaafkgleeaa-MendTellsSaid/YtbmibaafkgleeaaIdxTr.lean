/- Merged: IdxTree, IdxLeaf, Tree18. -/
import Derived.Test.YtbmibaafkgleeaaIdxPlain
import Derived.Test.YtbmibaafkgleeaaVebPos
import Derived.Test.YtbmibaafkgleeaaPrsAll
import Derived.Test.YtbmibaafkgleeaaSeekAll
import Derived.Test.YtbmibaafkgleeaaIdxFns
import Derived.Test.YtbmibaafkgleeaaOf04
import Derived.Test.YtbmibaafkgleeaaHeapH
namespace Go.Proofs.Ytbmibaafkgleeaa
set_option linter.unusedVariables false
set_option linter.unusedSimpArgs false
section
open Go.RowKit

/-- what a segment's leaf tells -/
def leafT (c : SlC) (k : Nat) : Int × Int :=
  if prs c (k * c.seg.toNat) ((k + 1) * c.seg.toNat) = [] then (0, 0)
  else (((prs c (k * c.seg.toNat) ((k + 1) * c.seg.toNat)).getD ((prs c (k * c.seg.toNat) ((k + 1) * c.seg.toNat)).length - 1) (0, 0)).1, ((prs c (k * c.seg.toNat) ((k + 1) * c.seg.toNat)).length : Nat))
def abvT (a b : Int × Int) : Int × Int := (abM a.1 b.1 b.2, abC a.2 b.2)
/-- what a node of a height tells -/
def trH (c : SlC) (M : Nat) : Nat → Nat → Int × Int
  | 0, n => leafT c (n - M)
  | d + 1, n => abvT (trH c M d (2 * n)) (trH c M d (2 * n + 1))
/-- what a node tells -/
def trN (c : SlC) (D n : Nat) : Int × Int := trH c (2 ^ D) (D - n.log2) n
theorem leafT_bd (c : SlC) (k : Nat) : 0 ≤ (leafT c k).2 ∧ (leafT c k).2 ≤ (c.seg.toNat : Nat) := by
  unfold leafT
  split
  · exact ⟨Int.le_refl _, by omega⟩
  · simp only [prs_length]
    have := cntW_le c.ws (k * c.seg.toNat) ((k + 1) * c.seg.toNat)
    have e : (k + 1) * c.seg.toNat = k * c.seg.toNat + c.seg.toNat := by rw [Nat.add_mul, Nat.one_mul]
    omega
theorem abC_bd {a b x y : Int} (h1 : 0 ≤ a) (h2 : a ≤ x) (h3 : 0 ≤ b) (h4 : b ≤ y) : 0 ≤ abC a b ∧ abC a b ≤ x + y := by unfold abC; split <;> omega
theorem trH_bd (c : SlC) (M : Nat) : ∀ d n, 0 ≤ (trH c M d n).2 ∧ (trH c M d n).2 ≤ ((c.seg.toNat * 2 ^ d : Nat) : Int) := by
  intro d
  induction d with
  | zero =>
    intro n
    rw [Nat.pow_zero, Nat.mul_one]
    exact leafT_bd c (n - M)
  | succ d ih =>
    intro n
    have h1 := ih (2 * n)
    have h2 := ih (2 * n + 1)
    have := abC_bd h1.1 h1.2 h2.1 h2.2
    rw [trH, abvT]
    refine ⟨this.1, Int.le_trans this.2 ?_⟩
    have e : c.seg.toNat * 2 ^ (d + 1) = c.seg.toNat * 2 ^ d + c.seg.toNat * 2 ^ d := by rw [Nat.pow_succ, ← Nat.mul_assoc]; omega
    rw [e]
    push_cast
    omega
theorem trN_bd (c : SlC) (D n : Nat) : 0 ≤ (trN c D n).2 ∧ (trN c D n).2 ≤ ((c.seg.toNat * 2 ^ D : Nat) : Int) := by
  have h := trH_bd c (2 ^ D) (D - n.log2) n
  have h2 : c.seg.toNat * 2 ^ (D - n.log2) ≤ c.seg.toNat * 2 ^ D := Nat.mul_le_mul_left _ (Nat.pow_le_pow_right (by omega) (by omega))
  unfold trN
  omega
theorem trN_leaf {c : SlC} {D n : Nat} (h : 2 ^ D ≤ n) : trN c D n = leafT c (n - 2 ^ D) := by
  have hp := Nat.two_pow_pos D
  have : D ≤ n.log2 := (Nat.le_log2 (by omega)).2 h
  rw [trN, show D - n.log2 = 0 by omega, trH]
theorem trN_node {c : SlC} {D n : Nat} (h1 : 1 ≤ n) (h : n < 2 ^ D) : trN c D n = abvT (trN c D (2 * n)) (trN c D (2 * n + 1)) := by
  have hl : n.log2 < D := (Nat.log2_lt (by omega)).2 h
  have e1 : (2 * n).log2 = n.log2 + 1 := by rw [log2_two (by omega)]; congr 2; omega
  have e2 : (2 * n + 1).log2 = n.log2 + 1 := by rw [log2_two (by omega)]; congr 2; omega
  rw [trN, trN, trN, e1, e2, show D - n.log2 = D - (n.log2 + 1) + 1 by omega, trH]
/-- the lists, the nodes being told for which p is so -/
def bltF (L : Nat) (f : Nat → Int) (p : Nat → Bool) : List Int := (lay L 1).map fun n => if p n then f n else 0
theorem bltF_length {L : Nat} (h : 1 ≤ L) (f : Nat → Int) (p : Nat → Bool) : (bltF L f p).length = 2 ^ L - 1 := by rw [bltF, List.length_map, lay_len 1 h]
theorem bltF_none (L : Nat) (h : 1 ≤ L) (f : Nat → Int) {p : Nat → Bool} (hp : ∀ n, 1 ≤ n → n < 2 ^ L → p n = false) : bltF L f p = List.replicate (2 ^ L - 1) 0 := by
  refine List.ext_getElem (by rw [bltF_length h, List.length_replicate]) fun i h1 h2 => ?_
  rw [bltF_length h] at h1
  have hi := lay_in h h1
  simp only [bltF, List.getElem_map, List.getElem_replicate]
  have e : (lay L 1)[i]'(by rw [lay_len 1 h]; exact h1) = (lay L 1).getD i 0 := by simp [List.getD_eq_getElem?_getD, lay_len 1 h, h1]
  rw [e, hp _ hi.1 (by omega)]
  rfl
theorem bltF_set {L : Nat} (h : 1 ≤ L) (f : Nat → Int) {p q : Nat → Bool} {n : Nat} (h1 : 1 ≤ n) (h2 : n < 2 ^ L) (hq : q n = true) (hne : ∀ m, m ≠ n → q m = p m) : (bltF L f p).set (vpos L n) (f n) = bltF L f q := by
  refine List.ext_getElem (by rw [List.length_set, bltF_length h, bltF_length h]) fun i h3 h4 => ?_
  rw [bltF_length h] at h4
  have e : (lay L 1)[i]'(by rw [lay_len 1 h]; exact h4) = (lay L 1).getD i 0 := by simp [List.getD_eq_getElem?_getD, lay_len 1 h, h4]
  rw [List.getElem_set]
  by_cases hi : vpos L n = i
  · rw [if_pos hi]
    simp only [bltF, List.getElem_map]
    rw [e, ← hi, (vpos_lay h h1 h2).2, hq]
    rfl
  · rw [if_neg hi]
    simp only [bltF, List.getElem_map]
    rw [e, hne]
    intro hx
    exact hi (by rw [← hx]; exact lay_vpos h h4)
theorem bltF_all (L : Nat) (h : 1 ≤ L) (f : Nat → Int) {p : Nat → Bool} (hp : ∀ n, 1 ≤ n → n < 2 ^ L → p n = true) : bltF L f p = (lay L 1).map f := by
  refine List.map_congr_left fun n hn => ?_
  obtain ⟨i, hi, rfl⟩ := List.getElem_of_mem hn
  have hi2 : i < 2 ^ L - 1 := by rw [lay_len 1 h] at hi; exact hi
  have e : (lay L 1)[i] = (lay L 1).getD i 0 := by simp [List.getD_eq_getElem?_getD, hi]
  have := lay_in h hi2
  rw [e, hp _ this.1 (by omega)]
  rfl
/-- the index of an array: its levels, its greatest keys, its counts -/
def bLev (c : SlC) : Nat := c.cs.length.log2 + 1
def bMax (c : SlC) : List Int := (lay (bLev c) 1).map fun n => (trN c c.cs.length.log2 n).1
def bCnt (c : SlC) : List Int := (lay (bLev c) 1).map fun n => (trN c c.cs.length.log2 n).2
/-- what is told of it: the error -/
def bldE (c : SlC) : Int := if seekE c = 0 then (if 8192 < c.cs.length then 4 else 0) else seekE c
def bldL (c : SlC) : Int := if bldE c = 0 then (bLev c : Int) else 0
def bldM (c : SlC) : List Int := if bldE c = 0 then bMax c else []
def bldC (c : SlC) : List Int := if bldE c = 0 then bCnt c else []
theorem seekE_may {c : SlC} (h : seekE c = 0) : slMay c = true := by
  unfold seekE at h
  split at h
  · assumption
  · cases h
theorem bldE_seek {c : SlC} (h : bldE c = 0) : seekE c = 0 ∧ c.cs.length ≤ 8192 := by
  unfold bldE at h
  split at h
  · rename_i h0
    split at h
    · cases h
    · exact ⟨h0, by omega⟩
  · exact absurd h (by assumption)
theorem bld_facts {c : SlC} (h : slMay c = true) (h2 : c.cs.length ≤ 8192) : ∃ S D M : Nat, c.seg = S ∧ c.seg.toNat = S ∧ 4 ≤ S ∧ S ≤ 64 ∧ c.cs.length = M ∧ M.log2 = D ∧ 2 ^ D = M ∧ D ≤ 13 ∧ S * M ≤ 65536 ∧ c.ks.length = S * M ∧ c.vs.length = S * M ∧ S * M ≤ 64 * c.ws.length ∧ c.ws.length ≤ 1024 := by
  obtain ⟨S, M, hS, hS4, hS64, hnk, hnv, hnc, hM1, hSM, -, hnw, -, hpm, -⟩ := slHead_facts (slMay_head h)
  have hD := (pwB_iff (by omega : 0 < M)).1 hpm
  refine ⟨S, M.log2, M, hS, by omega, hS4, hS64, hnc, rfl, hD, ?_, hSM, hnk, hnv, by omega, by omega⟩
  have : M.log2 < 14 := (Nat.log2_lt (by omega)).2 (by omega)
  omega
end

section
open Go.RowKit

theorem prsR_seg {c : SlC} {S M : Nat} (hm : slMay c = true) (hS : c.seg = S) (hk : c.ks.length = S * M) {k : Nat} (h : k < M) :
    partE c ((k * S : Nat) : Int) (((k + 1) * S : Nat) : Int) = 0 ∧ prsR c ((k * S : Nat) : Int) (((k + 1) * S : Nat) : Int) = prs c (k * S) ((k + 1) * S) := by
  have h1 : (k + 1) * S ≤ S * M := by rw [Nat.mul_comm S]; exact Nat.mul_le_mul_right _ (by omega)
  have h2 : k * S ≤ (k + 1) * S := Nat.mul_le_mul_right _ (by omega)
  have e : partE c ((k * S : Nat) : Int) (((k + 1) * S : Nat) : Int) = 0 := by rw [partE, if_pos hm, if_pos (by omega)]
  refine ⟨e, ?_⟩
  rw [prsR, if_pos e, Int.toNat_natCast, Int.toNat_natCast]

set_option maxRecDepth 100000 in
set_option maxHeartbeats 1000000 in
theorem leaf_ok (c : SlC) (a : SlA) (hm : slMay c = true) (hM : c.cs.length ≤ 8192) (k : Nat) (hk : k < c.cs.length) (w : World) (hin : SlIn w c a) :
    Calls Try.prog 53 #[slV c a, .int .i64 k] w (AnsB w (tdV (leafT c k).1 (leafT c k).2)) := by
  obtain ⟨S, D, M, hS, hS2, hS4, hS64, hcm, -, -, -, hSM, hks, -, hws, hwl⟩ := bld_facts hm hM
  obtain ⟨e1, e2⟩ := prsR_seg hm hS hks (k := k) (by omega)
  have PR := Lib.hid (fun W (hb : Below w.heap.size w W) => Pairs_ok c a (by omega) (by omega) ((k * S : Nat) : Int) (((k + 1) * S : Nat) : Int) W (hin.below hb))
  rw [e1, e2] at PR
  have hlf : leafT c k = if prs c (k * S) ((k + 1) * S) = [] then (0, 0) else (((prs c (k * S) ((k + 1) * S)).getD ((prs c (k * S) ((k + 1) * S)).length - 1) (0, 0)).1, (((prs c (k * S) ((k + 1) * S)).length : Nat) : Int)) := by unfold leafT; rw [hS2]
  have hlen : (prs c (k * S) ((k + 1) * S)).length ≤ 64 := by
    rw [prs_length]
    have := cntW_le c.ws (k * S) ((k + 1) * S)
    have e : (k + 1) * S = k * S + S := by rw [Nat.add_mul, Nat.one_mul]
    omega
  have hk1 : (k : Int) * (S : Int) = ((k * S : Nat) : Int) := by push_cast; rfl
  have hk2 : ((k : Int) + 1) * (S : Int) = (((k + 1) * S : Nat) : Int) := by push_cast; rfl
  have hkb1 : k * S ≤ 65536 := by
    have : k * S ≤ M * S := Nat.mul_le_mul_right _ (by omega)
    rw [Nat.mul_comm M] at this
    omega
  have hkb2 : (k + 1) * S ≤ 65536 := by
    have : (k + 1) * S ≤ M * S := Nat.mul_le_mul_right _ (by omega)
    rw [Nat.mul_comm M] at this
    omega
  obtain ⟨V, hV⟩ : ∃ V, leafT c k = V := ⟨_, rfl⟩
  rw [hV] at hlf ⊢
  generalize prs c (k * S) ((k + 1) * S) = L at *
  generalize k * S = p1 at *
  generalize (k + 1) * S = p2 at *
  obtain ⟨seg, ws, ks, vs, cs, laid⟩ := c
  obtain ⟨wa, ka, va, ca, wc, kc, vc, cc⟩ := a
  dsimp only [slV] at *
  subst hS
  have hkb : k ≤ 8192 := by omega
  clear hin hm hM hks hws hwl e1 e2 hV hcm hk hSM hS2
  cases L with
  | nil =>
    rw [if_pos rfl] at hlf
    subst hlf
    go_enter Try.func53, Try.ntmps53
    go_wp2_with fail
    refine (PR.out _ (by (repeat (first | with_reducible (first | exact Below.refl _ _ | assumption | exact Hid.out (by assumption) | refine Below.alloc ?_ ?_ _ | refine Below.setCell ?_ ?_ _ | refine below_drewN ?_ _ | refine Below.drew ?_ | refine below_via (by assumption) ?_ ?_) | (first | (with_reducible assumption) | omega | (simp only [szW] <;> omega) | (simp <;> omega)))))).mono ?_
    rintro e w1 ⟨vl, rfl, hol, hb1⟩
    have hz_w1 := hb1.size
    try simp only [World.size_alloc, World.size_setCell] at hz_w1
    have all_c : w1.cell? ⟨w.heap.size, 0, none⟩ = some (.int .i64 S) ∧ w1.cell? ⟨w.heap.size, 1, none⟩ = some (.slice wa ws.length wc) ∧ w1.cell? ⟨w.heap.size, 2, none⟩ = some (.slice ka ks.length kc) ∧ w1.cell? ⟨w.heap.size, 3, none⟩ = some (.slice va vs.length vc) ∧ w1.cell? ⟨w.heap.size, 4, none⟩ = some (.slice ca cs.length cc) ∧ w1.cell? ⟨w.heap.size, 5, none⟩ = some (.int .u64 laid) ∧ w1.cell? ⟨w.heap.size + 1, 0, none⟩ = some (.int .i64 0) ∧ w1.cell? ⟨w.heap.size + 1, 1, none⟩ = some (.int .i64 0) := by refine ⟨?_, ?_, ?_, ?_, ?_, ?_, ?_, ?_⟩ <;> (refine (hb1.cell ?_).trans ?_ <;> first | (first | (with_reducible assumption) | omega | (simp only [szW] <;> omega) | (simp <;> omega)) | (first | (with_reducible assumption) | ((try simp (disch := first | omega | (simp only [szW] <;> omega) | fail) only [ceW]) <;> first | (with_reducible assumption) | rfl)))
    have all_f : w1.frozen? ⟨w.heap.size + 1, 0, none⟩ = false ∧ w1.frozen? ⟨w.heap.size + 1, 1, none⟩ = false := by refine ⟨?_, ?_⟩ <;> (refine (hb1.frozen ?_).trans ?_ <;> first | (first | (with_reducible assumption) | omega | (simp only [szW] <;> omega) | (simp <;> omega)) | (first | (with_reducible assumption) | ((try simp (disch := first | omega | (simp only [szW] <;> omega) | fail) only [ceW]) <;> first | (with_reducible assumption) | rfl)))
    have all_z : w.heap.size < w1.heap.size ∧ w.heap.size + 1 < w1.heap.size := by refine ⟨?_, ?_⟩ <;> (omega)
    obtain ⟨c_t0, c_t1, c_t2, c_t3, c_t4, c_t5, c_r0, c_r1⟩ := all_c
    try clear all_c
    obtain ⟨f_r0, f_r1⟩ := all_f
    try clear all_f
    obtain ⟨z_t, z_r⟩ := all_z
    try clear all_z
    have hB1 : Below w.heap.size w w1 := by (repeat (first | with_reducible (first | exact Below.refl _ _ | assumption | exact Hid.out (by assumption) | refine Below.alloc ?_ ?_ _ | refine Below.setCell ?_ ?_ _ | refine below_drewN ?_ _ | refine Below.drew ?_ | refine below_via (by assumption) ?_ ?_) | (first | (with_reducible assumption) | omega | (simp only [szW] <;> omega) | (simp <;> omega))))
    obtain ⟨la, lc, hvl, -⟩ := owns_news hol
    replace hvl : vl = .slice la 0 lc := hvl
    subst hvl
    clear hol
    go_wp2
    exact bodyPost_ret (results_c rfl rfl (run_loadVar_two Try.underlying92 rfl (by kernel_rfl) (v := .int .i64 0) (u := .int .i64 0) ((World.cell?_setCell_other _ _ _ _ (by simp)).trans (World.cell?_setCell_same _ _ _ c_r0)) (World.cell?_setCell_same _ _ _ ((World.cell?_setCell_other _ _ _ _ (by simp)).trans c_r1)))) rfl ⟨rfl, by (repeat (first | with_reducible (first | exact Below.refl _ _ | assumption | exact Hid.out (by assumption) | refine Below.alloc ?_ ?_ _ | refine Below.setCell ?_ ?_ _ | refine below_drewN ?_ _ | refine Below.drew ?_ | refine below_via (by assumption) ?_ ?_) | (first | (with_reducible assumption) | omega | (simp only [szW] <;> omega) | (simp <;> omega))))⟩
  | cons p r =>
    rw [if_neg (by simp)] at hlf
    obtain ⟨m, hmm⟩ : ∃ m, (p :: r).length = m + 1 := ⟨r.length, rfl⟩
    rw [hmm, Nat.add_sub_cancel] at hlf
    have HMM := Lib.hid hmm
    go_enter Try.func53, Try.ntmps53
    go_wp2_with fail
    refine (PR.out _ (by (repeat (first | with_reducible (first | exact Below.refl _ _ | assumption | exact Hid.out (by assumption) | refine Below.alloc ?_ ?_ _ | refine Below.setCell ?_ ?_ _ | refine below_drewN ?_ _ | refine Below.drew ?_ | refine below_via (by assumption) ?_ ?_) | (first | (with_reducible assumption) | omega | (simp only [szW] <;> omega) | (simp <;> omega)))))).mono ?_
    rintro e w1 ⟨vl, rfl, hol, hb1⟩
    have hz_w1 := hb1.size
    try simp only [World.size_alloc, World.size_setCell] at hz_w1
    have all_c : w1.cell? ⟨w.heap.size, 0, none⟩ = some (.int .i64 S) ∧ w1.cell? ⟨w.heap.size, 1, none⟩ = some (.slice wa ws.length wc) ∧ w1.cell? ⟨w.heap.size, 2, none⟩ = some (.slice ka ks.length kc) ∧ w1.cell? ⟨w.heap.size, 3, none⟩ = some (.slice va vs.length vc) ∧ w1.cell? ⟨w.heap.size, 4, none⟩ = some (.slice ca cs.length cc) ∧ w1.cell? ⟨w.heap.size, 5, none⟩ = some (.int .u64 laid) ∧ w1.cell? ⟨w.heap.size + 1, 0, none⟩ = some (.int .i64 0) ∧ w1.cell? ⟨w.heap.size + 1, 1, none⟩ = some (.int .i64 0) := by refine ⟨?_, ?_, ?_, ?_, ?_, ?_, ?_, ?_⟩ <;> (refine (hb1.cell ?_).trans ?_ <;> first | (first | (with_reducible assumption) | omega | (simp only [szW] <;> omega) | (simp <;> omega)) | (first | (with_reducible assumption) | ((try simp (disch := first | omega | (simp only [szW] <;> omega) | fail) only [ceW]) <;> first | (with_reducible assumption) | rfl)))
    have all_f : w1.frozen? ⟨w.heap.size + 1, 0, none⟩ = false ∧ w1.frozen? ⟨w.heap.size + 1, 1, none⟩ = false := by refine ⟨?_, ?_⟩ <;> (refine (hb1.frozen ?_).trans ?_ <;> first | (first | (with_reducible assumption) | omega | (simp only [szW] <;> omega) | (simp <;> omega)) | (first | (with_reducible assumption) | ((try simp (disch := first | omega | (simp only [szW] <;> omega) | fail) only [ceW]) <;> first | (with_reducible assumption) | rfl)))
    have all_z : w.heap.size < w1.heap.size ∧ w.heap.size + 1 < w1.heap.size := by refine ⟨?_, ?_⟩ <;> (omega)
    obtain ⟨c_t0, c_t1, c_t2, c_t3, c_t4, c_t5, c_r0, c_r1⟩ := all_c
    try clear all_c
    obtain ⟨f_r0, f_r1⟩ := all_f
    try clear all_f
    obtain ⟨z_t, z_r⟩ := all_z
    try clear all_z
    have hB1 : Below w.heap.size w w1 := by (repeat (first | with_reducible (first | exact Below.refl _ _ | assumption | exact Hid.out (by assumption) | refine Below.alloc ?_ ?_ _ | refine Below.setCell ?_ ?_ _ | refine below_drewN ?_ _ | refine Below.drew ?_ | refine below_via (by assumption) ?_ ?_) | (first | (with_reducible assumption) | omega | (simp only [szW] <;> omega) | (simp <;> omega))))
    obtain ⟨la, lc, hvl, hil, -, -, -, -⟩ := row_of_owns hol
    rw [HMM.out] at hvl
    subst hvl
    obtain ⟨bl, ol, rfl, c0, -, zl⟩ := pr_get hil (i := m) (by rw [hmm]; omega)
    rw [HMM.out] at hlen
    generalize ((p :: r).getD m (0, 0)).1 = x at *
    have hx0 : ((m : Int) + 1 == 0) = false := by simp; omega
    subst hlf
    clear hol hil
    go_wp2
    exact bodyPost_ret (results_c rfl rfl (run_loadVar_two Try.underlying92 rfl (by kernel_rfl) (v := .int .i64 x) (u := .int .i64 ((m : Int) + 1)) ((World.cell?_setCell_other _ _ _ _ (by simp)).trans (World.cell?_setCell_same _ _ _ c_r0)) (World.cell?_setCell_same _ _ _ ((World.cell?_setCell_other _ _ _ _ (by simp)).trans c_r1)))) rfl ⟨by push_cast; rfl, by (repeat (first | with_reducible (first | exact Below.refl _ _ | assumption | exact Hid.out (by assumption) | refine Below.alloc ?_ ?_ _ | refine Below.setCell ?_ ?_ _ | refine below_drewN ?_ _ | refine Below.drew ?_ | refine below_via (by assumption) ?_ ?_) | (first | (with_reducible assumption) | omega | (simp only [szW] <;> omega) | (simp <;> omega))))⟩
set_option maxRecDepth 100000 in
set_option maxHeartbeats 1000000 in
theorem Leaf18_ok (c : SlC) (a : SlA) (hm : slMay c = true) (hM : c.cs.length ≤ 8192) (k : Nat) (hk : k < c.cs.length) (w : World) (hin : SlIn w c a) :
    Calls Try.prog 88 #[slV c a, .int .i64 k] w (AnsB w (tdV (leafT c k).1 (leafT c k).2)) := by
  obtain ⟨S, D, M, hS, hS2, hS4, hS64, hcm, -, -, -, hSM, hks, hvs, hws, hwl⟩ := bld_facts hm hM
  have hlf : leafT c k = if prs c (k * S) ((k + 1) * S) = [] then (0, 0) else (((prs c (k * S) ((k + 1) * S)).getD ((prs c (k * S) ((k + 1) * S)).length - 1) (0, 0)).1, (((prs c (k * S) ((k + 1) * S)).length : Nat) : Int)) := by unfold leafT; rw [hS2]
  have hlen : (prs c (k * S) ((k + 1) * S)).length ≤ 64 := by
    rw [prs_length]
    have := cntW_le c.ws (k * S) ((k + 1) * S)
    have e : (k + 1) * S = k * S + S := by rw [Nat.add_mul, Nat.one_mul]
    omega
  have hk1 : (k : Int) * (S : Int) = ((k * S : Nat) : Int) := by push_cast; rfl
  have hk2 : ((k : Int) + 1) * (S : Int) = (((k + 1) * S : Nat) : Int) := by push_cast; rfl
  have hkb1 : k * S ≤ S * M := by rw [Nat.mul_comm S]; exact Nat.mul_le_mul_right _ (by omega)
  have hkb2 : (k + 1) * S ≤ S * M := by rw [Nat.mul_comm S]; exact Nat.mul_le_mul_right _ (by omega)
  have PR := Lib.hid (fun W (hb : Below w.heap.size w W) => Of04_ok c a (k * S) ((k + 1) * S) (by omega) (by omega) (by omega) (by omega) (by omega) W (hin.below hb))
  obtain ⟨V, hV⟩ : ∃ V, leafT c k = V := ⟨_, rfl⟩
  rw [hV] at hlf ⊢
  generalize prs c (k * S) ((k + 1) * S) = L at *
  generalize k * S = p1 at *
  generalize (k + 1) * S = p2 at *
  obtain ⟨seg, ws, ks, vs, cs, laid⟩ := c
  obtain ⟨wa, ka, va, ca, wc, kc, vc, cc⟩ := a
  dsimp only [slV] at *
  subst hS
  have hkb : k ≤ 8192 := by omega
  have hp1 : p1 ≤ 65536 := by omega
  have hp2 : p2 ≤ 65536 := by omega
  clear hin hm hM hks hws hwl hV hcm hk hSM hS2 hvs hkb1 hkb2
  cases L with
  | nil =>
    rw [if_pos rfl] at hlf
    subst hlf
    go_enter Try.func88, Try.ntmps88
    go_wp2_with fail
    refine (PR.out _ (by (repeat (first | with_reducible (first | exact Below.refl _ _ | assumption | exact Hid.out (by assumption) | refine Below.alloc ?_ ?_ _ | refine Below.setCell ?_ ?_ _ | refine below_drewN ?_ _ | refine Below.drew ?_ | refine below_via (by assumption) ?_ ?_) | (first | (with_reducible assumption) | omega | (simp only [szW] <;> omega) | (simp <;> omega)))))).mono ?_
    rintro e w1 ⟨vl, rfl, hol, hb1⟩
    have hz_w1 := hb1.size
    try simp only [World.size_alloc, World.size_setCell] at hz_w1
    have all_c : w1.cell? ⟨w.heap.size, 0, none⟩ = some (.int .i64 S) ∧ w1.cell? ⟨w.heap.size, 1, none⟩ = some (.slice wa ws.length wc) ∧ w1.cell? ⟨w.heap.size, 2, none⟩ = some (.slice ka ks.length kc) ∧ w1.cell? ⟨w.heap.size, 3, none⟩ = some (.slice va vs.length vc) ∧ w1.cell? ⟨w.heap.size, 4, none⟩ = some (.slice ca cs.length cc) ∧ w1.cell? ⟨w.heap.size, 5, none⟩ = some (.int .u64 laid) ∧ w1.cell? ⟨w.heap.size + 1, 0, none⟩ = some (.int .i64 0) ∧ w1.cell? ⟨w.heap.size + 1, 1, none⟩ = some (.int .i64 0) := by refine ⟨?_, ?_, ?_, ?_, ?_, ?_, ?_, ?_⟩ <;> (refine (hb1.cell ?_).trans ?_ <;> first | (first | (with_reducible assumption) | omega | (simp only [szW] <;> omega) | (simp <;> omega)) | (first | (with_reducible assumption) | ((try simp (disch := first | omega | (simp only [szW] <;> omega) | fail) only [ceW]) <;> first | (with_reducible assumption) | rfl)))
    have all_f : w1.frozen? ⟨w.heap.size + 1, 0, none⟩ = false ∧ w1.frozen? ⟨w.heap.size + 1, 1, none⟩ = false := by refine ⟨?_, ?_⟩ <;> (refine (hb1.frozen ?_).trans ?_ <;> first | (first | (with_reducible assumption) | omega | (simp only [szW] <;> omega) | (simp <;> omega)) | (first | (with_reducible assumption) | ((try simp (disch := first | omega | (simp only [szW] <;> omega) | fail) only [ceW]) <;> first | (with_reducible assumption) | rfl)))
    have all_z : w.heap.size < w1.heap.size ∧ w.heap.size + 1 < w1.heap.size := by refine ⟨?_, ?_⟩ <;> (omega)
    obtain ⟨c_t0, c_t1, c_t2, c_t3, c_t4, c_t5, c_r0, c_r1⟩ := all_c
    try clear all_c
    obtain ⟨f_r0, f_r1⟩ := all_f
    try clear all_f
    obtain ⟨z_t, z_r⟩ := all_z
    try clear all_z
    have hB1 : Below w.heap.size w w1 := by (repeat (first | with_reducible (first | exact Below.refl _ _ | assumption | exact Hid.out (by assumption) | refine Below.alloc ?_ ?_ _ | refine Below.setCell ?_ ?_ _ | refine below_drewN ?_ _ | refine Below.drew ?_ | refine below_via (by assumption) ?_ ?_) | (first | (with_reducible assumption) | omega | (simp only [szW] <;> omega) | (simp <;> omega))))
    obtain ⟨la, lc, hvl, -⟩ := owns_news hol
    replace hvl : vl = .slice la 0 lc := hvl
    subst hvl
    clear hol
    go_wp2
    exact bodyPost_ret (results_c rfl rfl (run_loadVar_two Try.underlying125 rfl (by kernel_rfl) (v := .int .i64 0) (u := .int .i64 0) ((World.cell?_setCell_other _ _ _ _ (by simp)).trans (World.cell?_setCell_same _ _ _ c_r0)) (World.cell?_setCell_same _ _ _ ((World.cell?_setCell_other _ _ _ _ (by simp)).trans c_r1)))) rfl ⟨rfl, by (repeat (first | with_reducible (first | exact Below.refl _ _ | assumption | exact Hid.out (by assumption) | refine Below.alloc ?_ ?_ _ | refine Below.setCell ?_ ?_ _ | refine below_drewN ?_ _ | refine Below.drew ?_ | refine below_via (by assumption) ?_ ?_) | (first | (with_reducible assumption) | omega | (simp only [szW] <;> omega) | (simp <;> omega))))⟩
  | cons p r =>
    rw [if_neg (by simp)] at hlf
    obtain ⟨m, hmm⟩ : ∃ m, (p :: r).length = m + 1 := ⟨r.length, rfl⟩
    rw [hmm, Nat.add_sub_cancel] at hlf
    have HMM := Lib.hid hmm
    go_enter Try.func88, Try.ntmps88
    go_wp2_with fail
    refine (PR.out _ (by (repeat (first | with_reducible (first | exact Below.refl _ _ | assumption | exact Hid.out (by assumption) | refine Below.alloc ?_ ?_ _ | refine Below.setCell ?_ ?_ _ | refine below_drewN ?_ _ | refine Below.drew ?_ | refine below_via (by assumption) ?_ ?_) | (first | (with_reducible assumption) | omega | (simp only [szW] <;> omega) | (simp <;> omega)))))).mono ?_
    rintro e w1 ⟨vl, rfl, hol, hb1⟩
    have hz_w1 := hb1.size
    try simp only [World.size_alloc, World.size_setCell] at hz_w1
    have all_c : w1.cell? ⟨w.heap.size, 0, none⟩ = some (.int .i64 S) ∧ w1.cell? ⟨w.heap.size, 1, none⟩ = some (.slice wa ws.length wc) ∧ w1.cell? ⟨w.heap.size, 2, none⟩ = some (.slice ka ks.length kc) ∧ w1.cell? ⟨w.heap.size, 3, none⟩ = some (.slice va vs.length vc) ∧ w1.cell? ⟨w.heap.size, 4, none⟩ = some (.slice ca cs.length cc) ∧ w1.cell? ⟨w.heap.size, 5, none⟩ = some (.int .u64 laid) ∧ w1.cell? ⟨w.heap.size + 1, 0, none⟩ = some (.int .i64 0) ∧ w1.cell? ⟨w.heap.size + 1, 1, none⟩ = some (.int .i64 0) := by refine ⟨?_, ?_, ?_, ?_, ?_, ?_, ?_, ?_⟩ <;> (refine (hb1.cell ?_).trans ?_ <;> first | (first | (with_reducible assumption) | omega | (simp only [szW] <;> omega) | (simp <;> omega)) | (first | (with_reducible assumption) | ((try simp (disch := first | omega | (simp only [szW] <;> omega) | fail) only [ceW]) <;> first | (with_reducible assumption) | rfl)))
    have all_f : w1.frozen? ⟨w.heap.size + 1, 0, none⟩ = false ∧ w1.frozen? ⟨w.heap.size + 1, 1, none⟩ = false := by refine ⟨?_, ?_⟩ <;> (refine (hb1.frozen ?_).trans ?_ <;> first | (first | (with_reducible assumption) | omega | (simp only [szW] <;> omega) | (simp <;> omega)) | (first | (with_reducible assumption) | ((try simp (disch := first | omega | (simp only [szW] <;> omega) | fail) only [ceW]) <;> first | (with_reducible assumption) | rfl)))
    have all_z : w.heap.size < w1.heap.size ∧ w.heap.size + 1 < w1.heap.size := by refine ⟨?_, ?_⟩ <;> (omega)
    obtain ⟨c_t0, c_t1, c_t2, c_t3, c_t4, c_t5, c_r0, c_r1⟩ := all_c
    try clear all_c
    obtain ⟨f_r0, f_r1⟩ := all_f
    try clear all_f
    obtain ⟨z_t, z_r⟩ := all_z
    try clear all_z
    have hB1 : Below w.heap.size w w1 := by (repeat (first | with_reducible (first | exact Below.refl _ _ | assumption | exact Hid.out (by assumption) | refine Below.alloc ?_ ?_ _ | refine Below.setCell ?_ ?_ _ | refine below_drewN ?_ _ | refine Below.drew ?_ | refine below_via (by assumption) ?_ ?_) | (first | (with_reducible assumption) | omega | (simp only [szW] <;> omega) | (simp <;> omega))))
    obtain ⟨la, lc, hvl, hil, -, -, -, -⟩ := row_of_owns hol
    rw [HMM.out] at hvl
    subst hvl
    obtain ⟨bl, ol, rfl, c0, -, zl⟩ := pr_get hil (i := m) (by rw [hmm]; omega)
    rw [HMM.out] at hlen
    generalize ((p :: r).getD m (0, 0)).1 = x at *
    have hx0 : ((m : Int) + 1 == 0) = false := by simp; omega
    subst hlf
    clear hol hil
    go_wp2
    exact bodyPost_ret (results_c rfl rfl (run_loadVar_two Try.underlying125 rfl (by kernel_rfl) (v := .int .i64 x) (u := .int .i64 ((m : Int) + 1)) ((World.cell?_setCell_other _ _ _ _ (by simp)).trans (World.cell?_setCell_same _ _ _ c_r0)) (World.cell?_setCell_same _ _ _ ((World.cell?_setCell_other _ _ _ _ (by simp)).trans c_r1)))) rfl ⟨by push_cast; rfl, by (repeat (first | with_reducible (first | exact Below.refl _ _ | assumption | exact Hid.out (by assumption) | refine Below.alloc ?_ ?_ _ | refine Below.setCell ?_ ?_ _ | refine below_drewN ?_ _ | refine Below.drew ?_ | refine below_via (by assumption) ?_ ?_) | (first | (with_reducible assumption) | omega | (simp only [szW] <;> omega) | (simp <;> omega))))⟩
end

section
open Go.RowKit Go.Shelf
attribute [local go_sem] Oper.semAt_some

set_option maxRecDepth 100000 in
set_option maxHeartbeats 2000000 in
theorem Tree18_leaf (seg : Int) (wa ka va ca : Option Addr) (wc kc vc cc lw lk lv lc : Nat) (laid : Int) (w : World) (l : Int) (M n : Nat) (hl1 : 1 ≤ l) (hl2 : l ≤ 14) (hM : (2 : Int) ^ (l.toNat - 1) = M) (hM2 : M ≤ 8192) (h1 : M ≤ n) (h2 : n < 2 * M) (tm tc : Int)
    (LF : Hid (∀ W, Below w.heap.size w W → Calls Try.prog 88 #[.agg #[.int .i64 seg, .slice wa lw wc, .slice ka lk kc, .slice va lv vc, .slice ca lc cc, .int .u64 laid], .int .i64 ((n : Int) - M)] W (AnsB W (tdV tm tc)))) :
    Calls Try.prog 109 #[.agg #[.int .i64 seg, .slice wa lw wc, .slice ka lk kc, .slice va lv vc, .slice ca lc cc, .int .u64 laid], .int .i64 l, .int .i64 n] w (AnsB w (tdV tm tc)) := by
    have FI := Lib.hid (fun w => First_ok l hl1 hl2 w)
    rw [hM] at FI
    have hcmp : decide ((n : Int) ≥ M) = true := by simp; omega
    clear hM
    go_enter Try.func109, Try.ntmps109
    go_wp2_with fail
    refine (FI.out _).mono ?_
    rintro e w' ⟨rfl, rfl⟩
    go_wp2
    generalize hwz : ((w.alloc (.cells #[.int .i64 seg, .slice wa lw wc, .slice ka lk kc, .slice va lv vc, .slice ca lc cc, .int .u64 laid] 29)).alloc (.cells #[.int .i64 0, .int .i64 0] 125)) = wz
    have c_t0 : wz.cell? ⟨w.heap.size, 0, none⟩ = some (.int .i64 seg) := by rw [← hwz]; (first | (with_reducible assumption) | ((simp only [World.frozen?_setCell, World.frozen?_drew, World.frozen?_drewN]) <;> (with_reducible assumption)) | ((repeat (first | (with_reducible assumption) | (with_reducible refine World.cell?_setCell_same _ _ _ (by with_reducible assumption)) | (rw [World.cell?_setCell_other _ _ _ _ (by intro e; simp at e; done)]) | (with_reducible refine cell_setCell_block ?_ ?_) | (rw [World.cell?_drew]) | (rw [World.cell?_drewN]) | (dsimp only; omega))); done) | (first | (with_reducible assumption) | ((try simp (disch := first | omega | (simp only [szW] <;> omega) | fail) only [ceW]) <;> first | (with_reducible assumption) | rfl)))
    have c_t1 : wz.cell? ⟨w.heap.size, 1, none⟩ = some (.slice wa lw wc) := by rw [← hwz]; (first | (with_reducible assumption) | ((simp only [World.frozen?_setCell, World.frozen?_drew, World.frozen?_drewN]) <;> (with_reducible assumption)) | ((repeat (first | (with_reducible assumption) | (with_reducible refine World.cell?_setCell_same _ _ _ (by with_reducible assumption)) | (rw [World.cell?_setCell_other _ _ _ _ (by intro e; simp at e; done)]) | (with_reducible refine cell_setCell_block ?_ ?_) | (rw [World.cell?_drew]) | (rw [World.cell?_drewN]) | (dsimp only; omega))); done) | (first | (with_reducible assumption) | ((try simp (disch := first | omega | (simp only [szW] <;> omega) | fail) only [ceW]) <;> first | (with_reducible assumption) | rfl)))
    have c_t2 : wz.cell? ⟨w.heap.size, 2, none⟩ = some (.slice ka lk kc) := by rw [← hwz]; (first | (with_reducible assumption) | ((simp only [World.frozen?_setCell, World.frozen?_drew, World.frozen?_drewN]) <;> (with_reducible assumption)) | ((repeat (first | (with_reducible assumption) | (with_reducible refine World.cell?_setCell_same _ _ _ (by with_reducible assumption)) | (rw [World.cell?_setCell_other _ _ _ _ (by intro e; simp at e; done)]) | (with_reducible refine cell_setCell_block ?_ ?_) | (rw [World.cell?_drew]) | (rw [World.cell?_drewN]) | (dsimp only; omega))); done) | (first | (with_reducible assumption) | ((try simp (disch := first | omega | (simp only [szW] <;> omega) | fail) only [ceW]) <;> first | (with_reducible assumption) | rfl)))
    have c_t3 : wz.cell? ⟨w.heap.size, 3, none⟩ = some (.slice va lv vc) := by rw [← hwz]; (first | (with_reducible assumption) | ((simp only [World.frozen?_setCell, World.frozen?_drew, World.frozen?_drewN]) <;> (with_reducible assumption)) | ((repeat (first | (with_reducible assumption) | (with_reducible refine World.cell?_setCell_same _ _ _ (by with_reducible assumption)) | (rw [World.cell?_setCell_other _ _ _ _ (by intro e; simp at e; done)]) | (with_reducible refine cell_setCell_block ?_ ?_) | (rw [World.cell?_drew]) | (rw [World.cell?_drewN]) | (dsimp only; omega))); done) | (first | (with_reducible assumption) | ((try simp (disch := first | omega | (simp only [szW] <;> omega) | fail) only [ceW]) <;> first | (with_reducible assumption) | rfl)))
    have c_t4 : wz.cell? ⟨w.heap.size, 4, none⟩ = some (.slice ca lc cc) := by rw [← hwz]; (first | (with_reducible assumption) | ((simp only [World.frozen?_setCell, World.frozen?_drew, World.frozen?_drewN]) <;> (with_reducible assumption)) | ((repeat (first | (with_reducible assumption) | (with_reducible refine World.cell?_setCell_same _ _ _ (by with_reducible assumption)) | (rw [World.cell?_setCell_other _ _ _ _ (by intro e; simp at e; done)]) | (with_reducible refine cell_setCell_block ?_ ?_) | (rw [World.cell?_drew]) | (rw [World.cell?_drewN]) | (dsimp only; omega))); done) | (first | (with_reducible assumption) | ((try simp (disch := first | omega | (simp only [szW] <;> omega) | fail) only [ceW]) <;> first | (with_reducible assumption) | rfl)))
    have c_t5 : wz.cell? ⟨w.heap.size, 5, none⟩ = some (.int .u64 laid) := by rw [← hwz]; (first | (with_reducible assumption) | ((simp only [World.frozen?_setCell, World.frozen?_drew, World.frozen?_drewN]) <;> (with_reducible assumption)) | ((repeat (first | (with_reducible assumption) | (with_reducible refine World.cell?_setCell_same _ _ _ (by with_reducible assumption)) | (rw [World.cell?_setCell_other _ _ _ _ (by intro e; simp at e; done)]) | (with_reducible refine cell_setCell_block ?_ ?_) | (rw [World.cell?_drew]) | (rw [World.cell?_drewN]) | (dsimp only; omega))); done) | (first | (with_reducible assumption) | ((try simp (disch := first | omega | (simp only [szW] <;> omega) | fail) only [ceW]) <;> first | (with_reducible assumption) | rfl)))
    have z_t : w.heap.size < wz.heap.size := by rw [← hwz]; (first | (with_reducible assumption) | omega | (simp only [szW] <;> omega) | (simp <;> omega))
    have c_r0 : wz.cell? ⟨w.heap.size + 1, 0, none⟩ = some (.int .i64 0) := by rw [← hwz]; (first | (with_reducible assumption) | ((simp only [World.frozen?_setCell, World.frozen?_drew, World.frozen?_drewN]) <;> (with_reducible assumption)) | ((repeat (first | (with_reducible assumption) | (with_reducible refine World.cell?_setCell_same _ _ _ (by with_reducible assumption)) | (rw [World.cell?_setCell_other _ _ _ _ (by intro e; simp at e; done)]) | (with_reducible refine cell_setCell_block ?_ ?_) | (rw [World.cell?_drew]) | (rw [World.cell?_drewN]) | (dsimp only; omega))); done) | (first | (with_reducible assumption) | ((try simp (disch := first | omega | (simp only [szW] <;> omega) | fail) only [ceW]) <;> first | (with_reducible assumption) | rfl)))
    have f_r0 : wz.frozen? ⟨w.heap.size + 1, 0, none⟩ = false := by rw [← hwz]; (first | (with_reducible assumption) | ((simp only [World.frozen?_setCell, World.frozen?_drew, World.frozen?_drewN]) <;> (with_reducible assumption)) | ((repeat (first | (with_reducible assumption) | (with_reducible refine World.cell?_setCell_same _ _ _ (by with_reducible assumption)) | (rw [World.cell?_setCell_other _ _ _ _ (by intro e; simp at e; done)]) | (with_reducible refine cell_setCell_block ?_ ?_) | (rw [World.cell?_drew]) | (rw [World.cell?_drewN]) | (dsimp only; omega))); done) | (first | (with_reducible assumption) | ((try simp (disch := first | omega | (simp only [szW] <;> omega) | fail) only [ceW]) <;> first | (with_reducible assumption) | rfl)))
    have c_r1 : wz.cell? ⟨w.heap.size + 1, 1, none⟩ = some (.int .i64 0) := by rw [← hwz]; (first | (with_reducible assumption) | ((simp only [World.frozen?_setCell, World.frozen?_drew, World.frozen?_drewN]) <;> (with_reducible assumption)) | ((repeat (first | (with_reducible assumption) | (with_reducible refine World.cell?_setCell_same _ _ _ (by with_reducible assumption)) | (rw [World.cell?_setCell_other _ _ _ _ (by intro e; simp at e; done)]) | (with_reducible refine cell_setCell_block ?_ ?_) | (rw [World.cell?_drew]) | (rw [World.cell?_drewN]) | (dsimp only; omega))); done) | (first | (with_reducible assumption) | ((try simp (disch := first | omega | (simp only [szW] <;> omega) | fail) only [ceW]) <;> first | (with_reducible assumption) | rfl)))
    have f_r1 : wz.frozen? ⟨w.heap.size + 1, 1, none⟩ = false := by rw [← hwz]; (first | (with_reducible assumption) | ((simp only [World.frozen?_setCell, World.frozen?_drew, World.frozen?_drewN]) <;> (with_reducible assumption)) | ((repeat (first | (with_reducible assumption) | (with_reducible refine World.cell?_setCell_same _ _ _ (by with_reducible assumption)) | (rw [World.cell?_setCell_other _ _ _ _ (by intro e; simp at e; done)]) | (with_reducible refine cell_setCell_block ?_ ?_) | (rw [World.cell?_drew]) | (rw [World.cell?_drewN]) | (dsimp only; omega))); done) | (first | (with_reducible assumption) | ((try simp (disch := first | omega | (simp only [szW] <;> omega) | fail) only [ceW]) <;> first | (with_reducible assumption) | rfl)))
    have z_r : w.heap.size + 1 < wz.heap.size := by rw [← hwz]; (first | (with_reducible assumption) | omega | (simp only [szW] <;> omega) | (simp <;> omega))
    have HS : Hid (Below w.heap.size w wz) := by rw [← hwz]; exact Lib.hid (((Below.refl _ _).alloc (Nat.le_refl _) _).alloc (by simp) _)
    have hz : w.heap.size + 2 = wz.heap.size := by rw [← hwz]; simp
    clear hwz
    refine wp_region_facts 6 (by kernel_rfl) (N := 29) rfl (by kernel_rfl) (by kernel_rfl) (by decide) (fun w' => Below wz.heap.size wz w') (Ext 25) (factAt [.is (.agg #[.int .i64 seg, .slice wa lw wc, .slice ka lk kc, .slice va lv vc, .slice ca lc cc, .int .u64 laid]), .is (.int .i64 n), .is (.int .i64 l), .is (.int .i64 M), .is (.int .i64 ((n : Int) - M)), .is (tdV tm tc)]) (factAt_stays _) (Below.refl _ _).drew ?steps ?fin
    case steps =>
      refine ⟨?o0, ?o1, ?o2, ?o3, ?o4, ?o5, trivial⟩
      case o0 =>
        intro u a w' ev hJ hd K hK
        have e3 : a.tmps.getD 3 undef = .pointer (some ⟨w.heap.size, 0, none⟩) := ev 3 (by decide)
        have g0 := (hJ.cell (p := ⟨w.heap.size, 0, none⟩) (by dsimp only; omega)).trans c_t0
        have g1 := (hJ.cell (p := ⟨w.heap.size, 1, none⟩) (by dsimp only; omega)).trans c_t1
        have g2 := (hJ.cell (p := ⟨w.heap.size, 2, none⟩) (by dsimp only; omega)).trans c_t2
        have g3 := (hJ.cell (p := ⟨w.heap.size, 3, none⟩) (by dsimp only; omega)).trans c_t3
        have g4 := (hJ.cell (p := ⟨w.heap.size, 4, none⟩) (by dsimp only; omega)).trans c_t4
        have g5 := (hJ.cell (p := ⟨w.heap.size, 5, none⟩) (by dsimp only; omega)).trans c_t5
        have HK := Lib.hid hK
        clear hK ev hd
        go_simp
        exact HK.out _ _ (fun h => by cases h) hJ rfl (Ext.refl _ _)
      case o1 =>
        intro u a w' ev hJ hd K hK
        have e2 : a.tmps.getD 2 undef = .int .i64 n := ev 2 (by decide)
        have HK := Lib.hid hK
        clear hK ev hd
        go_simp
        exact HK.out _ _ (fun h => by cases h) hJ rfl (Ext.refl _ _)
      case o2 =>
        intro u a w' ev hJ hd K hK
        have e1 : a.tmps.getD 1 undef = .int .i64 l := ev 1 (by decide)
        have HK := Lib.hid hK
        clear hK ev hd
        go_simp
        exact HK.out _ _ (fun h => by cases h) hJ rfl (Ext.refl _ _)
      case o3 =>
        intro u a w' ev hJ hd K hK
        have e13 : a.tmps.getD 13 undef = .int .i64 l := (ev 13 (by decide)).trans (hd 2 _ (by kernel_rfl) rfl)
        have HK := Lib.hid hK
        have HC := Lib.hid (FI.out w')
        clear hK ev hd
        go_simp
        refine HC.out.mono ?_
        rintro e w'' ⟨rfl, rfl⟩
        exact HK.out _ _ (fun h => by cases h) hJ rfl (Ext.refl _ _)
      case o4 =>
        intro u a w' ev hJ hd K hK
        have e12 : a.tmps.getD 12 undef = .int .i64 n := (ev 12 (by decide)).trans (hd 1 _ (by kernel_rfl) rfl)
        have e14 : a.tmps.getD 14 undef = .int .i64 M := (ev 14 (by decide)).trans (hd 3 _ (by kernel_rfl) rfl)
        have HK := Lib.hid hK
        clear hK ev hd
        go_simp
        rw [IntWalk.i64_in _ (by omega)]
        exact HK.out _ _ (fun h => by cases h) hJ rfl (Ext.refl _ _)
      case o5 =>
        intro u a w' ev hJ hd K hK
        have e11 : a.tmps.getD 11 undef = .agg #[.int .i64 seg, .slice wa lw wc, .slice ka lk kc, .slice va lv vc, .slice ca lc cc, .int .u64 laid] := (ev 11 (by decide)).trans (hd 0 _ (by kernel_rfl) rfl)
        have e15 : a.tmps.getD 15 undef = .int .i64 ((n : Int) - M) := (ev 15 (by decide)).trans (hd 4 _ (by kernel_rfl) rfl)
        have HK := Lib.hid hK
        have HC := Lib.hid (LF.out w' (below_via hJ HS.out (by omega)))
        have hzJ := hJ.size
        clear hK ev hd
        go_simp
        refine HC.out.mono ?_
        rintro e w'' ⟨rfl, hb⟩
        exact HK.out _ _ (fun h => by cases h) (hJ.trans (hb.mono hzJ)) rfl (Ext.below hb)
    case fin =>
      intro u w2 hJ hG
      have h1 : u 16 = tdV tm tc := hG 5 _ rfl
      have d0 := (hJ.cell (p := ⟨w.heap.size + 1, 0, none⟩) (by dsimp only; omega)).trans c_r0
      have d1 := (hJ.cell (p := ⟨w.heap.size + 1, 1, none⟩) (by dsimp only; omega)).trans c_r1
      have q0 := (hJ.frozen (p := ⟨w.heap.size + 1, 0, none⟩) (by dsimp only; omega)).trans f_r0
      have q1 := (hJ.frozen (p := ⟨w.heap.size + 1, 1, none⟩) (by dsimp only; omega)).trans f_r1
      have HB2 := below_via hJ HS.out (by omega)
      have hz2 := hJ.size
      clear hG hJ
      simp only [mixFrame, mixL, dstsOf, List.take_succ_cons, List.take_zero, List.filterMap_cons, List.filterMap_nil, List.contains_cons, List.contains_nil, Nat.reduceBEq, Bool.or_false, Bool.false_or, Bool.or_true, Bool.true_or, if_true, if_false, Bool.false_eq_true, Nat.reduceAdd, Nat.zero_add, List.drop_succ_cons, List.drop_zero, h1]
      go_wp2
      exact bodyPost_ret (results_c rfl rfl (run_loadVar_two Try.underlying125 rfl (by kernel_rfl) (v := .int .i64 tm) (u := .int .i64 tc) ((World.cell?_setCell_other _ _ _ _ (by simp)).trans (World.cell?_setCell_same _ _ _ d0)) (World.cell?_setCell_same _ _ _ ((World.cell?_setCell_other _ _ _ _ (by simp)).trans d1)))) rfl ⟨rfl, by (repeat (first | with_reducible (first | exact Below.refl _ _ | assumption | exact Hid.out (by assumption) | refine Below.alloc ?_ ?_ _ | refine Below.setCell ?_ ?_ _ | refine below_drewN ?_ _ | refine Below.drew ?_ | refine below_via (by assumption) ?_ ?_) | (first | (with_reducible assumption) | omega | (simp only [szW] <;> omega) | (simp <;> omega))))⟩
set_option maxRecDepth 100000 in
set_option maxHeartbeats 2000000 in
theorem Tree18_node (seg : Int) (wa ka va ca : Option Addr) (wc kc vc cc lw lk lv lc : Nat) (laid : Int) (w : World) (l : Int) (M n : Nat) (hl1 : 1 ≤ l) (hl2 : l ≤ 14) (hM : (2 : Int) ^ (l.toNat - 1) = M) (hM2 : M ≤ 8192) (h1 : n < M) (am ac bm bc tm tc : Int)
    (TA : Hid (∀ W, Below w.heap.size w W → Calls Try.prog 109 #[.agg #[.int .i64 seg, .slice wa lw wc, .slice ka lk kc, .slice va lv vc, .slice ca lc cc, .int .u64 laid], .int .i64 l, .int .i64 (2 * (n : Int))] W (AnsB W (tdV am ac))))
    (TB : Hid (∀ W, Below w.heap.size w W → Calls Try.prog 109 #[.agg #[.int .i64 seg, .slice wa lw wc, .slice ka lk kc, .slice va lv vc, .slice ca lc cc, .int .u64 laid], .int .i64 l, .int .i64 (2 * (n : Int) + 1)] W (AnsB W (tdV bm bc))))
    (AB : Hid (∀ W, Calls Try.prog 83 #[tdV am ac, tdV bm bc] W (AnsB W (tdV tm tc)))) :
    Calls Try.prog 109 #[.agg #[.int .i64 seg, .slice wa lw wc, .slice ka lk kc, .slice va lv vc, .slice ca lc cc, .int .u64 laid], .int .i64 l, .int .i64 n] w (AnsB w (tdV tm tc)) := by
    have FI := Lib.hid (fun w => First_ok l hl1 hl2 w)
    rw [hM] at FI
    have hcmp : decide ((n : Int) ≥ M) = false := by simp; omega
    clear hM
    go_enter Try.func109, Try.ntmps109
    go_wp2_with fail
    refine (FI.out _).mono ?_
    rintro e w' ⟨rfl, rfl⟩
    go_wp2
    generalize hwz : ((w.alloc (.cells #[.int .i64 seg, .slice wa lw wc, .slice ka lk kc, .slice va lv vc, .slice ca lc cc, .int .u64 laid] 29)).alloc (.cells #[.int .i64 0, .int .i64 0] 125)) = wz
    have c_t0 : wz.cell? ⟨w.heap.size, 0, none⟩ = some (.int .i64 seg) := by rw [← hwz]; (first | (with_reducible assumption) | ((simp only [World.frozen?_setCell, World.frozen?_drew, World.frozen?_drewN]) <;> (with_reducible assumption)) | ((repeat (first | (with_reducible assumption) | (with_reducible refine World.cell?_setCell_same _ _ _ (by with_reducible assumption)) | (rw [World.cell?_setCell_other _ _ _ _ (by intro e; simp at e; done)]) | (with_reducible refine cell_setCell_block ?_ ?_) | (rw [World.cell?_drew]) | (rw [World.cell?_drewN]) | (dsimp only; omega))); done) | (first | (with_reducible assumption) | ((try simp (disch := first | omega | (simp only [szW] <;> omega) | fail) only [ceW]) <;> first | (with_reducible assumption) | rfl)))
    have c_t1 : wz.cell? ⟨w.heap.size, 1, none⟩ = some (.slice wa lw wc) := by rw [← hwz]; (first | (with_reducible assumption) | ((simp only [World.frozen?_setCell, World.frozen?_drew, World.frozen?_drewN]) <;> (with_reducible assumption)) | ((repeat (first | (with_reducible assumption) | (with_reducible refine World.cell?_setCell_same _ _ _ (by with_reducible assumption)) | (rw [World.cell?_setCell_other _ _ _ _ (by intro e; simp at e; done)]) | (with_reducible refine cell_setCell_block ?_ ?_) | (rw [World.cell?_drew]) | (rw [World.cell?_drewN]) | (dsimp only; omega))); done) | (first | (with_reducible assumption) | ((try simp (disch := first | omega | (simp only [szW] <;> omega) | fail) only [ceW]) <;> first | (with_reducible assumption) | rfl)))
    have c_t2 : wz.cell? ⟨w.heap.size, 2, none⟩ = some (.slice ka lk kc) := by rw [← hwz]; (first | (with_reducible assumption) | ((simp only [World.frozen?_setCell, World.frozen?_drew, World.frozen?_drewN]) <;> (with_reducible assumption)) | ((repeat (first | (with_reducible assumption) | (with_reducible refine World.cell?_setCell_same _ _ _ (by with_reducible assumption)) | (rw [World.cell?_setCell_other _ _ _ _ (by intro e; simp at e; done)]) | (with_reducible refine cell_setCell_block ?_ ?_) | (rw [World.cell?_drew]) | (rw [World.cell?_drewN]) | (dsimp only; omega))); done) | (first | (with_reducible assumption) | ((try simp (disch := first | omega | (simp only [szW] <;> omega) | fail) only [ceW]) <;> first | (with_reducible assumption) | rfl)))
    have c_t3 : wz.cell? ⟨w.heap.size, 3, none⟩ = some (.slice va lv vc) := by rw [← hwz]; (first | (with_reducible assumption) | ((simp only [World.frozen?_setCell, World.frozen?_drew, World.frozen?_drewN]) <;> (with_reducible assumption)) | ((repeat (first | (with_reducible assumption) | (with_reducible refine World.cell?_setCell_same _ _ _ (by with_reducible assumption)) | (rw [World.cell?_setCell_other _ _ _ _ (by intro e; simp at e; done)]) | (with_reducible refine cell_setCell_block ?_ ?_) | (rw [World.cell?_drew]) | (rw [World.cell?_drewN]) | (dsimp only; omega))); done) | (first | (with_reducible assumption) | ((try simp (disch := first | omega | (simp only [szW] <;> omega) | fail) only [ceW]) <;> first | (with_reducible assumption) | rfl)))
    have c_t4 : wz.cell? ⟨w.heap.size, 4, none⟩ = some (.slice ca lc cc) := by rw [← hwz]; (first | (with_reducible assumption) | ((simp only [World.frozen?_setCell, World.frozen?_drew, World.frozen?_drewN]) <;> (with_reducible assumption)) | ((repeat (first | (with_reducible assumption) | (with_reducible refine World.cell?_setCell_same _ _ _ (by with_reducible assumption)) | (rw [World.cell?_setCell_other _ _ _ _ (by intro e; simp at e; done)]) | (with_reducible refine cell_setCell_block ?_ ?_) | (rw [World.cell?_drew]) | (rw [World.cell?_drewN]) | (dsimp only; omega))); done) | (first | (with_reducible assumption) | ((try simp (disch := first | omega | (simp only [szW] <;> omega) | fail) only [ceW]) <;> first | (with_reducible assumption) | rfl)))
    have c_t5 : wz.cell? ⟨w.heap.size, 5, none⟩ = some (.int .u64 laid) := by rw [← hwz]; (first | (with_reducible assumption) | ((simp only [World.frozen?_setCell, World.frozen?_drew, World.frozen?_drewN]) <;> (with_reducible assumption)) | ((repeat (first | (with_reducible assumption) | (with_reducible refine World.cell?_setCell_same _ _ _ (by with_reducible assumption)) | (rw [World.cell?_setCell_other _ _ _ _ (by intro e; simp at e; done)]) | (with_reducible refine cell_setCell_block ?_ ?_) | (rw [World.cell?_drew]) | (rw [World.cell?_drewN]) | (dsimp only; omega))); done) | (first | (with_reducible assumption) | ((try simp (disch := first | omega | (simp only [szW] <;> omega) | fail) only [ceW]) <;> first | (with_reducible assumption) | rfl)))
    have z_t : w.heap.size < wz.heap.size := by rw [← hwz]; (first | (with_reducible assumption) | omega | (simp only [szW] <;> omega) | (simp <;> omega))
    have c_r0 : wz.cell? ⟨w.heap.size + 1, 0, none⟩ = some (.int .i64 0) := by rw [← hwz]; (first | (with_reducible assumption) | ((simp only [World.frozen?_setCell, World.frozen?_drew, World.frozen?_drewN]) <;> (with_reducible assumption)) | ((repeat (first | (with_reducible assumption) | (with_reducible refine World.cell?_setCell_same _ _ _ (by with_reducible assumption)) | (rw [World.cell?_setCell_other _ _ _ _ (by intro e; simp at e; done)]) | (with_reducible refine cell_setCell_block ?_ ?_) | (rw [World.cell?_drew]) | (rw [World.cell?_drewN]) | (dsimp only; omega))); done) | (first | (with_reducible assumption) | ((try simp (disch := first | omega | (simp only [szW] <;> omega) | fail) only [ceW]) <;> first | (with_reducible assumption) | rfl)))
    have f_r0 : wz.frozen? ⟨w.heap.size + 1, 0, none⟩ = false := by rw [← hwz]; (first | (with_reducible assumption) | ((simp only [World.frozen?_setCell, World.frozen?_drew, World.frozen?_drewN]) <;> (with_reducible assumption)) | ((repeat (first | (with_reducible assumption) | (with_reducible refine World.cell?_setCell_same _ _ _ (by with_reducible assumption)) | (rw [World.cell?_setCell_other _ _ _ _ (by intro e; simp at e; done)]) | (with_reducible refine cell_setCell_block ?_ ?_) | (rw [World.cell?_drew]) | (rw [World.cell?_drewN]) | (dsimp only; omega))); done) | (first | (with_reducible assumption) | ((try simp (disch := first | omega | (simp only [szW] <;> omega) | fail) only [ceW]) <;> first | (with_reducible assumption) | rfl)))
    have c_r1 : wz.cell? ⟨w.heap.size + 1, 1, none⟩ = some (.int .i64 0) := by rw [← hwz]; (first | (with_reducible assumption) | ((simp only [World.frozen?_setCell, World.frozen?_drew, World.frozen?_drewN]) <;> (with_reducible assumption)) | ((repeat (first | (with_reducible assumption) | (with_reducible refine World.cell?_setCell_same _ _ _ (by with_reducible assumption)) | (rw [World.cell?_setCell_other _ _ _ _ (by intro e; simp at e; done)]) | (with_reducible refine cell_setCell_block ?_ ?_) | (rw [World.cell?_drew]) | (rw [World.cell?_drewN]) | (dsimp only; omega))); done) | (first | (with_reducible assumption) | ((try simp (disch := first | omega | (simp only [szW] <;> omega) | fail) only [ceW]) <;> first | (with_reducible assumption) | rfl)))
    have f_r1 : wz.frozen? ⟨w.heap.size + 1, 1, none⟩ = false := by rw [← hwz]; (first | (with_reducible assumption) | ((simp only [World.frozen?_setCell, World.frozen?_drew, World.frozen?_drewN]) <;> (with_reducible assumption)) | ((repeat (first | (with_reducible assumption) | (with_reducible refine World.cell?_setCell_same _ _ _ (by with_reducible assumption)) | (rw [World.cell?_setCell_other _ _ _ _ (by intro e; simp at e; done)]) | (with_reducible refine cell_setCell_block ?_ ?_) | (rw [World.cell?_drew]) | (rw [World.cell?_drewN]) | (dsimp only; omega))); done) | (first | (with_reducible assumption) | ((try simp (disch := first | omega | (simp only [szW] <;> omega) | fail) only [ceW]) <;> first | (with_reducible assumption) | rfl)))
    have z_r : w.heap.size + 1 < wz.heap.size := by rw [← hwz]; (first | (with_reducible assumption) | omega | (simp only [szW] <;> omega) | (simp <;> omega))
    have HS : Hid (Below w.heap.size w wz) := by rw [← hwz]; exact Lib.hid (((Below.refl _ _).alloc (Nat.le_refl _) _).alloc (by simp) _)
    have hz : w.heap.size + 2 = wz.heap.size := by rw [← hwz]; simp
    clear hwz
    refine wp_region_facts 12 (by kernel_rfl) (N := 29) rfl (by kernel_rfl) (by kernel_rfl) (by decide) (fun w' => Below wz.heap.size wz w') (Ext 25) (factAt [.is (.agg #[.int .i64 seg, .slice wa lw wc, .slice ka lk kc, .slice va lv vc, .slice ca lc cc, .int .u64 laid]), .is (.int .i64 l), .is (.int .i64 n), .is (.int .i64 (2 * (n : Int))), .is (tdV am ac), .is (.agg #[.int .i64 seg, .slice wa lw wc, .slice ka lk kc, .slice va lv vc, .slice ca lc cc, .int .u64 laid]), .is (.int .i64 l), .is (.int .i64 n), .is (.int .i64 (2 * (n : Int))), .is (.int .i64 (2 * (n : Int) + 1)), .is (tdV bm bc), .is (tdV tm tc)]) (factAt_stays _) (Below.refl _ _).drew ?steps ?fin
    case steps =>
      refine ⟨?o0, ?o1, ?o2, ?o3, ?o4, ?o5, ?o6, ?o7, ?o8, ?o9, ?o10, ?o11, trivial⟩
      case o0 =>
        intro u a w' ev hJ hd K hK
        have e3 : a.tmps.getD 3 undef = .pointer (some ⟨w.heap.size, 0, none⟩) := ev 3 (by decide)
        have g0 := (hJ.cell (p := ⟨w.heap.size, 0, none⟩) (by dsimp only; omega)).trans c_t0
        have g1 := (hJ.cell (p := ⟨w.heap.size, 1, none⟩) (by dsimp only; omega)).trans c_t1
        have g2 := (hJ.cell (p := ⟨w.heap.size, 2, none⟩) (by dsimp only; omega)).trans c_t2
        have g3 := (hJ.cell (p := ⟨w.heap.size, 3, none⟩) (by dsimp only; omega)).trans c_t3
        have g4 := (hJ.cell (p := ⟨w.heap.size, 4, none⟩) (by dsimp only; omega)).trans c_t4
        have g5 := (hJ.cell (p := ⟨w.heap.size, 5, none⟩) (by dsimp only; omega)).trans c_t5
        have HK := Lib.hid hK
        clear hK ev hd
        go_simp
        exact HK.out _ _ (fun h => by cases h) hJ rfl (Ext.refl _ _)
      case o1 =>
        intro u a w' ev hJ hd K hK
        have e1 : a.tmps.getD 1 undef = .int .i64 l := ev 1 (by decide)
        have HK := Lib.hid hK
        clear hK ev hd
        go_simp
        exact HK.out _ _ (fun h => by cases h) hJ rfl (Ext.refl _ _)
      case o2 =>
        intro u a w' ev hJ hd K hK
        have e2 : a.tmps.getD 2 undef = .int .i64 n := ev 2 (by decide)
        have HK := Lib.hid hK
        clear hK ev hd
        go_simp
        exact HK.out _ _ (fun h => by cases h) hJ rfl (Ext.refl _ _)
      case o3 =>
        intro u a w' ev hJ hd K hK
        have e19 : a.tmps.getD 19 undef = .int .i64 n := (ev 19 (by decide)).trans (hd 2 _ (by kernel_rfl) rfl)
        have HK := Lib.hid hK
        clear hK ev hd
        go_simp
        rw [IntWalk.i64_in _ (by omega)]
        exact HK.out _ _ (fun h => by cases h) hJ rfl (Ext.refl _ _)
      case o4 =>
        intro u a w' ev hJ hd K hK
        have e17 : a.tmps.getD 17 undef = .agg #[.int .i64 seg, .slice wa lw wc, .slice ka lk kc, .slice va lv vc, .slice ca lc cc, .int .u64 laid] := (ev 17 (by decide)).trans (hd 0 _ (by kernel_rfl) rfl)
        have e18 : a.tmps.getD 18 undef = .int .i64 l := (ev 18 (by decide)).trans (hd 1 _ (by kernel_rfl) rfl)
        have e20 : a.tmps.getD 20 undef = .int .i64 (2 * (n : Int)) := (ev 20 (by decide)).trans (hd 3 _ (by kernel_rfl) rfl)
        have HK := Lib.hid hK
        have HC := Lib.hid (TA.out w' (below_via hJ HS.out (by omega)))
        have hzJ := hJ.size
        clear hK ev hd
        go_simp
        refine HC.out.mono ?_
        rintro e w'' ⟨rfl, hb⟩
        exact HK.out _ _ (fun h => by cases h) (hJ.trans (hb.mono hzJ)) rfl (Ext.below hb)
      case o5 =>
        intro u a w' ev hJ hd K hK
        have e3 : a.tmps.getD 3 undef = .pointer (some ⟨w.heap.size, 0, none⟩) := ev 3 (by decide)
        have g0 := (hJ.cell (p := ⟨w.heap.size, 0, none⟩) (by dsimp only; omega)).trans c_t0
        have g1 := (hJ.cell (p := ⟨w.heap.size, 1, none⟩) (by dsimp only; omega)).trans c_t1
        have g2 := (hJ.cell (p := ⟨w.heap.size, 2, none⟩) (by dsimp only; omega)).trans c_t2
        have g3 := (hJ.cell (p := ⟨w.heap.size, 3, none⟩) (by dsimp only; omega)).trans c_t3
        have g4 := (hJ.cell (p := ⟨w.heap.size, 4, none⟩) (by dsimp only; omega)).trans c_t4
        have g5 := (hJ.cell (p := ⟨w.heap.size, 5, none⟩) (by dsimp only; omega)).trans c_t5
        have HK := Lib.hid hK
        clear hK ev hd
        go_simp
        exact HK.out _ _ (fun h => by cases h) hJ rfl (Ext.refl _ _)
      case o6 =>
        intro u a w' ev hJ hd K hK
        have e1 : a.tmps.getD 1 undef = .int .i64 l := ev 1 (by decide)
        have HK := Lib.hid hK
        clear hK ev hd
        go_simp
        exact HK.out _ _ (fun h => by cases h) hJ rfl (Ext.refl _ _)
      case o7 =>
        intro u a w' ev hJ hd K hK
        have e2 : a.tmps.getD 2 undef = .int .i64 n := ev 2 (by decide)
        have HK := Lib.hid hK
        clear hK ev hd
        go_simp
        exact HK.out _ _ (fun h => by cases h) hJ rfl (Ext.refl _ _)
      case o8 =>
        intro u a w' ev hJ hd K hK
        have e24 : a.tmps.getD 24 undef = .int .i64 n := (ev 24 (by decide)).trans (hd 7 _ (by kernel_rfl) rfl)
        have HK := Lib.hid hK
        clear hK ev hd
        go_simp
        rw [IntWalk.i64_in _ (by omega)]
        exact HK.out _ _ (fun h => by cases h) hJ rfl (Ext.refl _ _)
      case o9 =>
        intro u a w' ev hJ hd K hK
        have e25 : a.tmps.getD 25 undef = .int .i64 (2 * (n : Int)) := (ev 25 (by decide)).trans (hd 8 _ (by kernel_rfl) rfl)
        have HK := Lib.hid hK
        clear hK ev hd
        go_simp
        rw [IntWalk.i64_in _ (by omega)]
        exact HK.out _ _ (fun h => by cases h) hJ rfl (Ext.refl _ _)
      case o10 =>
        intro u a w' ev hJ hd K hK
        have e22 : a.tmps.getD 22 undef = .agg #[.int .i64 seg, .slice wa lw wc, .slice ka lk kc, .slice va lv vc, .slice ca lc cc, .int .u64 laid] := (ev 22 (by decide)).trans (hd 5 _ (by kernel_rfl) rfl)
        have e23 : a.tmps.getD 23 undef = .int .i64 l := (ev 23 (by decide)).trans (hd 6 _ (by kernel_rfl) rfl)
        have e26 : a.tmps.getD 26 undef = .int .i64 (2 * (n : Int) + 1) := (ev 26 (by decide)).trans (hd 9 _ (by kernel_rfl) rfl)
        have HK := Lib.hid hK
        have HC := Lib.hid (TB.out w' (below_via hJ HS.out (by omega)))
        have hzJ := hJ.size
        clear hK ev hd
        go_simp
        refine HC.out.mono ?_
        rintro e w'' ⟨rfl, hb⟩
        exact HK.out _ _ (fun h => by cases h) (hJ.trans (hb.mono hzJ)) rfl (Ext.below hb)
      case o11 =>
        intro u a w' ev hJ hd K hK
        have e21 : a.tmps.getD 21 undef = tdV am ac := (ev 21 (by decide)).trans (hd 4 _ (by kernel_rfl) rfl)
        have e27 : a.tmps.getD 27 undef = tdV bm bc := (ev 27 (by decide)).trans (hd 10 _ (by kernel_rfl) rfl)
        have HK := Lib.hid hK
        have HC := Lib.hid (AB.out w')
        have hzJ := hJ.size
        clear hK ev hd
        go_simp
        refine HC.out.mono ?_
        rintro e w'' ⟨rfl, hb⟩
        exact HK.out _ _ (fun h => by cases h) (hJ.trans (hb.mono hzJ)) rfl (Ext.below hb)
    case fin =>
      intro u w2 hJ hG
      have h1 : u 28 = tdV tm tc := hG 11 _ rfl
      have d0 := (hJ.cell (p := ⟨w.heap.size + 1, 0, none⟩) (by dsimp only; omega)).trans c_r0
      have d1 := (hJ.cell (p := ⟨w.heap.size + 1, 1, none⟩) (by dsimp only; omega)).trans c_r1
      have q0 := (hJ.frozen (p := ⟨w.heap.size + 1, 0, none⟩) (by dsimp only; omega)).trans f_r0
      have q1 := (hJ.frozen (p := ⟨w.heap.size + 1, 1, none⟩) (by dsimp only; omega)).trans f_r1
      have HB2 := below_via hJ HS.out (by omega)
      have hz2 := hJ.size
      clear hG hJ
      simp only [mixFrame, mixL, dstsOf, List.take_succ_cons, List.take_zero, List.filterMap_cons, List.filterMap_nil, List.contains_cons, List.contains_nil, Nat.reduceBEq, Bool.or_false, Bool.false_or, Bool.or_true, Bool.true_or, if_true, if_false, Bool.false_eq_true, Nat.reduceAdd, Nat.zero_add, List.drop_succ_cons, List.drop_zero, h1]
      go_wp2
      exact bodyPost_ret (results_c rfl rfl (run_loadVar_two Try.underlying125 rfl (by kernel_rfl) (v := .int .i64 tm) (u := .int .i64 tc) ((World.cell?_setCell_other _ _ _ _ (by simp)).trans (World.cell?_setCell_same _ _ _ d0)) (World.cell?_setCell_same _ _ _ ((World.cell?_setCell_other _ _ _ _ (by simp)).trans d1)))) rfl ⟨rfl, by (repeat (first | with_reducible (first | exact Below.refl _ _ | assumption | exact Hid.out (by assumption) | refine Below.alloc ?_ ?_ _ | refine Below.setCell ?_ ?_ _ | refine below_drewN ?_ _ | refine Below.drew ?_ | refine below_via (by assumption) ?_ ?_) | (first | (with_reducible assumption) | omega | (simp only [szW] <;> omega) | (simp <;> omega))))⟩

/-- what the reference's Tree answers -/
theorem Tree18_ok (c : SlC) (a : SlA) (hm : slMay c = true) (hM : c.cs.length ≤ 8192) (l : Int) (hl : l = (c.cs.length.log2 : Nat) + 1) : ∀ d n : Nat, 1 ≤ n → n.log2 + d = c.cs.length.log2 → ∀ w, SlIn w c a →
    Calls Try.prog 109 #[slV c a, .int .i64 l, .int .i64 n] w (AnsB w (tdV (trN c c.cs.length.log2 n).1 (trN c c.cs.length.log2 n).2)) := by
  obtain ⟨S, D, M, hS, hS2, hS4, hS64, hcm, hMD, hDM, hD13, hSM, hks, hvs, hws, hwl⟩ := bld_facts hm hM
  have hlt : l.toNat - 1 = D := by rw [hcm, hMD] at hl; omega
  have hM1 : (2 : Int) ^ (l.toNat - 1) = M := by rw [hlt, ← hDM]; push_cast; rfl
  have hM8 : M ≤ 8192 := by omega
  have hlb : 1 ≤ l ∧ l ≤ 14 := by omega
  rw [hcm, hMD]
  intro d
  induction d with
  | zero =>
    intro n hn hd w hin
    rw [Nat.add_zero] at hd
    have h1 : M ≤ n := by rw [← hDM, ← hd]; exact Nat.log2_self_le (by omega)
    have h2 : n < 2 * M := by
      have h3 : n < 2 ^ (n.log2 + 1) := Nat.lt_log2_self
      rw [hd, Nat.pow_succ, hDM] at h3
      omega
    have ht : trN c D n = leafT c (n - M) := by rw [trN_leaf (by rw [hDM]; exact h1), hDM]
    have LF := Lib.hid (fun W (hb : Below w.heap.size w W) => Leaf18_ok c a hm hM (n - M) (by omega) W (hin.below hb))
    rw [← ht, show ((n - M : Nat) : Int) = (n : Int) - M by omega] at LF
    exact Tree18_leaf _ _ _ _ _ _ _ _ _ _ _ _ _ _ w l M n hlb.1 hlb.2 hM1 hM8 h1 h2 _ _ LF
  | succ d ih =>
    intro n hn hd w hin
    have h1 : n < M := by
      rw [← hDM]
      exact (Nat.log2_lt (by omega)).1 (by omega)
    have e1 : (2 * n).log2 = n.log2 + 1 := by rw [log2_two (by omega)]; congr 2; omega
    have e2 : (2 * n + 1).log2 = n.log2 + 1 := by rw [log2_two (by omega)]; congr 2; omega
    have TA := Lib.hid (fun W (hb : Below w.heap.size w W) => ih (2 * n) (by omega) (by omega) W (hin.below hb))
    have TB := Lib.hid (fun W (hb : Below w.heap.size w W) => ih (2 * n + 1) (by omega) (by omega) W (hin.below hb))
    rw [show ((2 * n : Nat) : Int) = 2 * (n : Int) by omega] at TA
    rw [show ((2 * n + 1 : Nat) : Int) = 2 * (n : Int) + 1 by omega] at TB
    have hb1 := trN_bd c D (2 * n)
    have hb2 := trN_bd c D (2 * n + 1)
    have hbs : ((c.seg.toNat * 2 ^ D : Nat) : Int) ≤ 65536 := by rw [hS2, hDM]; omega
    have AB := Lib.hid (fun W => above18_ok (trN c D (2 * n)).1 (trN c D (2 * n)).2 (trN c D (2 * n + 1)).1 (trN c D (2 * n + 1)).2 (by omega) (by omega) (by omega) (by omega) W)
    have ht := trN_node (c := c) (D := D) hn (by rw [hDM]; exact h1)
    rw [ht]
    exact Tree18_node _ _ _ _ _ _ _ _ _ _ _ _ _ _ w l M n hlb.1 hlb.2 hM1 hM8 h1 _ _ _ _ _ _ TA TB AB
end
end Go.Proofs.Ytbmibaafkgleeaa
