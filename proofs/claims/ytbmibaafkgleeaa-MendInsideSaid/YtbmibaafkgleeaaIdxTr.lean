/- Merged: IdxTree, IdxLeaf, Tree18. -/
import Derived.Test.YtbmibaafkgleeaaIdxPlain
import Derived.Test.YtbmibaafkgleeaaVebPos
import Derived.Test.YtbmibaafkgleeaaPrsAll
import Derived.Test.YtbmibaafkgleeaaSeekAll
import Derived.Test.YtbmibaafkgleeaaIdxFns
import Derived.Test.YtbmibaafkgleeaaOf04
import Derived.Test.YtbmibaafkgleeaaHeapH
namespace Go.Proofs.Ytbmibaafkgleeaa
set_option linter.unusedVariables false
set_option linter.unusedSimpArgs false
section
open Go.RowKit

/-- what a segment's leaf tells -/
def leafT (c : SlC) (k : Nat) : Int × Int :=
  if prs c (k * c.seg.toNat) ((k + 1) * c.seg.toNat) = [] then (0, 0)
  else (((prs c (k * c.seg.toNat) ((k + 1) * c.seg.toNat)).getD ((prs c (k * c.seg.toNat) ((k + 1) * c.seg.toNat)).length - 1) (0, 0)).1, ((prs c (k * c.seg.toNat) ((k + 1) * c.seg.toNat)).length : Nat))
def abvT (a b : Int × Int) : Int × Int := (abM a.1 b.1 b.2, abC a.2 b.2)
/-- what a node of a height tells -/
def trH (c : SlC) (M : Nat) : Nat → Nat → Int × Int
  | 0, n => leafT c (n - M)
  | d + 1, n => abvT (trH c M d (2 * n)) (trH c M d (2 * n + 1))
/-- what a node tells -/
def trN (c : SlC) (D n : Nat) : Int × Int := trH c (2 ^ D) (D - n.log2) n
theorem leafT_bd (c : SlC) (k : Nat) : 0 ≤ (leafT c k).2 ∧ (leafT c k).2 ≤ (c.seg.toNat : Nat) := by
  unfold leafT
  split
  · exact ⟨Int.le_refl _, by omega⟩
  · simp only [prs_length]
    have := cntW_le c.ws (k * c.seg.toNat) ((k + 1) * c.seg.toNat)
    have e : (k + 1) * c.seg.toNat = k * c.seg.toNat + c.seg.toNat := by rw [Nat.add_mul, Nat.one_mul]
    omega
theorem abC_bd {a b x y : Int} (h1 : 0 ≤ a) (h2 : a ≤ x) (h3 : 0 ≤ b) (h4 : b ≤ y) : 0 ≤ abC a b ∧ abC a b ≤ x + y := by unfold abC; split <;> omega
theorem trH_bd (c : SlC) (M : Nat) : ∀ d n, 0 ≤ (trH c M d n).2 ∧ (trH c M d n).2 ≤ ((c.seg.toNat * 2 ^ d : Nat) : Int) := by
  intro d
  induction d with
  | zero =>
    intro n
    rw [Nat.pow_zero, Nat.mul_one]
    exact leafT_bd c (n - M)
  | succ d ih =>
    intro n
    have h1 := ih (2 * n)
    have h2 := ih (2 * n + 1)
    have := abC_bd h1.1 h1.2 h2.1 h2.2
    rw [trH, abvT]
    refine ⟨this.1, Int.le_trans this.2 ?_⟩
    have e : c.seg.toNat * 2 ^ (d + 1) = c.seg.toNat * 2 ^ d + c.seg.toNat * 2 ^ d := by rw [Nat.pow_succ, ← Nat.mul_assoc]; omega
    rw [e]
    push_cast
    omega
theorem trN_bd (c : SlC) (D n : Nat) : 0 ≤ (trN c D n).2 ∧ (trN c D n).2 ≤ ((c.seg.toNat * 2 ^ D : Nat) : Int) := by
  have h := trH_bd c (2 ^ D) (D - n.log2) n
  have h2 : c.seg.toNat * 2 ^ (D - n.log2) ≤ c.seg.toNat * 2 ^ D := Nat.mul_le_mul_left _ (Nat.pow_le_pow_right (by omega) (by omega))
  unfold trN
  omega
theorem trN_leaf {c : SlC} {D n : Nat} (h : 2 ^ D ≤ n) : trN c D n = leafT c (n - 2 ^ D) := by
  have hp := Nat.two_pow_pos D
  have : D ≤ n.log2 := (Nat.le_log2 (by omega)).2 h
  rw [trN, show D - n.log2 = 0 by omega, trH]
theorem trN_node {c : SlC} {D n : Nat} (h1 : 1 ≤ n) (h : n < 2 ^ D) : trN c D n = abvT (trN c D (2 * n)) (trN c D (2 * n + 1)) := by
  have hl : n.log2 < D := (Nat.log2_lt (by omega)).2 h
  have e1 : (2 * n).log2 = n.log2 + 1 := by rw [log2_two (by omega)]; congr 2; omega
  have e2 : (2 * n + 1).log2 = n.log2 + 1 := by rw [log2_two (by omega)]; congr 2; omega
  rw [trN, trN, trN, e1, e2, show D - n.log2 = D - (n.log2 + 1) + 1 by omega, trH]
/-- the lists, the nodes being told for which p is so -/
def bltF (L : Nat) (f : Nat → Int) (p : Nat → Bool) : List Int := (lay L 1).map fun n => if p n then f n else 0
theorem bltF_length {L : Nat} (h : 1 ≤ L) (f : Nat → Int) (p : Nat → Bool) : (bltF L f p).length = 2 ^ L - 1 := by rw [bltF, List.length_map, lay_len 1 h]
theorem bltF_none (L : Nat) (h : 1 ≤ L) (f : Nat → Int) {p : Nat → Bool} (hp : ∀ n, 1 ≤ n → n < 2 ^ L → p n = false) : bltF L f p = List.replicate (2 ^ L - 1) 0 := by
  refine List.ext_getElem (by rw [bltF_length h, List.length_replicate]) fun i h1 h2 => ?_
  rw [bltF_length h] at h1
  have hi := lay_in h h1
  simp only [bltF, List.getElem_map, List.getElem_replicate]
  have e : (lay L 1)[i]'(by rw [lay_len 1 h]; exact h1) = (lay L 1).getD i 0 := by simp [List.getD_eq_getElem?_getD, lay_len 1 h, h1]
  rw [e, hp _ hi.1 (by omega)]
  rfl
theorem bltF_set {L : Nat} (h : 1 ≤ L) (f : Nat → Int) {p q : Nat → Bool} {n : Nat} (h1 : 1 ≤ n) (h2 : n < 2 ^ L) (hq : q n = true) (hne : ∀ m, m ≠ n → q m = p m) : (bltF L f p).set (vpos L n) (f n) = bltF L f q := by
  refine List.ext_getElem (by rw [List.length_set, bltF_length h, bltF_length h]) fun i h3 h4 => ?_
  rw [bltF_length h] at h4
  have e : (lay L 1)[i]'(by rw [lay_len 1 h]; exact h4) = (lay L 1).getD i 0 := by simp [List.getD_eq_getElem?_getD, lay_len 1 h, h4]
  rw [List.getElem_set]
  by_cases hi : vpos L n = i
  · rw [if_pos hi]
    simp only [bltF, List.getElem_map]
    rw [e, ← hi, (vpos_lay h h1 h2).2, hq]
    rfl
  · rw [if_neg hi]
    simp only [bltF, List.getElem_map]
    rw [e, hne]
    intro hx
    exact hi (by rw [← hx]; exact lay_vpos h h4)
theorem bltF_all (L : Nat) (h : 1 ≤ L) (f : Nat → Int) {p : Nat → Bool} (hp : ∀ n, 1 ≤ n → n < 2 ^ L → p n = true) : bltF L f p = (lay L 1).map f := by
  refine List.map_congr_left fun n hn => ?_
  obtain ⟨i, hi, rfl⟩ := List.getElem_of_mem hn
  have hi2 : i < 2 ^ L - 1 := by rw [lay_len 1 h] at hi; exact hi
  have e : (lay L 1)[i] = (lay L 1).getD i 0 := by simp [List.getD_eq_getElem?_getD, hi]
  have := lay_in h hi2
  rw [e, hp _ this.1 (by omega)]
  rfl
theorem bltF_get {L : Nat} (h : 1 ≤ L) (f : Nat → Int) (p : Nat → Bool) {n : Nat} (h1 : 1 ≤ n) (h2 : n < 2 ^ L) : (bltF L f p).getD (vpos L n) 0 = if p n then f n else 0 := by
  obtain ⟨a, b⟩ := vpos_lay h h1 h2
  rw [bltF, List.getD_eq_getElem?_getD, List.getElem?_map, List.getElem?_eq_getElem (by rw [lay_len 1 h]; exact a)]
  have e : (lay L 1)[vpos L n]'(by rw [lay_len 1 h]; exact a) = n := by
    refine Eq.trans ?_ b
    simp [List.getD_eq_getElem?_getD, lay_len 1 h, a]
  simp [e]
/-- the index of an array: its levels, its greatest keys, its counts -/
def bLev (c : SlC) : Nat := c.cs.length.log2 + 1
def bMax (c : SlC) : List Int := (lay (bLev c) 1).map fun n => (trN c c.cs.length.log2 n).1
def bCnt (c : SlC) : List Int := (lay (bLev c) 1).map fun n => (trN c c.cs.length.log2 n).2
/-- what is told of it: the error -/
def bldE (c : SlC) : Int := if seekE c = 0 then (if 8192 < c.cs.length then 4 else 0) else seekE c
def bldL (c : SlC) : Int := if bldE c = 0 then (bLev c : Int) else 0
def bldM (c : SlC) : List Int := if bldE c = 0 then bMax c else []
def bldC (c : SlC) : List Int := if bldE c = 0 then bCnt c else []
theorem seekE_may {c : SlC} (h : seekE c = 0) : slMay c = true := by
  unfold seekE at h
  split at h
  · assumption
  · cases h
theorem bldE_seek {c : SlC} (h : bldE c = 0) : seekE c = 0 ∧ c.cs.length ≤ 8192 := by
  unfold bldE at h
  split at h
  · rename_i h0
    split at h
    · cases h
    · exact ⟨h0, by omega⟩
  · exact absurd h (by assumption)
theorem bld_facts {c : SlC} (h : slMay c = true) (h2 : c.cs.length ≤ 8192) : ∃ S D M : Nat, c.seg = S ∧ c.seg.toNat = S ∧ 4 ≤ S ∧ S ≤ 64 ∧ c.cs.length = M ∧ M.log2 = D ∧ 2 ^ D = M ∧ D ≤ 13 ∧ S * M ≤ 65536 ∧ c.ks.length = S * M ∧ c.vs.length = S * M ∧ S * M ≤ 64 * c.ws.length ∧ c.ws.length ≤ 1024 := by
  obtain ⟨S, M, hS, hS4, hS64, hnk, hnv, hnc, hM1, hSM, -, hnw, -, hpm, -⟩ := slHead_facts (slMay_head h)
  have hD := (pwB_iff (by omega : 0 < M)).1 hpm
  refine ⟨S, M.log2, M, hS, by omega, hS4, hS64, hnc, rfl, hD, ?_, hSM, hnk, hnv, by omega, by omega⟩
  have : M.log2 < 14 := (Nat.log2_lt (by omega)).2 (by omega)
  omega
end

section
open Go.RowKit

theorem prsR_seg {c : SlC} {S M : Nat} (hm : slMay c = true) (hS : c.seg = S) (hk : c.ks.length = S * M) {k : Nat} (h : k < M) :
    partE c ((k * S : Nat) : Int) (((k + 1) * S : Nat) : Int) = 0 ∧ prsR c ((k * S : Nat) : Int) (((k + 1) * S : Nat) : Int) = prs c (k * S) ((k + 1) * S) := by
  have h1 : (k + 1) * S ≤ S * M := by rw [Nat.mul_comm S]; exact Nat.mul_le_mul_right _ (by omega)
  have h2 : k * S ≤ (k + 1) * S := Nat.mul_le_mul_right _ (by omega)
  have e : partE c ((k * S : Nat) : Int) (((k + 1) * S : Nat) : Int) = 0 := by rw [partE, if_pos hm, if_pos (by omega)]
  refine ⟨e, ?_⟩
  rw [prsR, if_pos e, Int.toNat_natCast, Int.toNat_natCast]

set_option maxRecDepth 100000 in
set_option maxHeartbeats 1000000 in
theorem leaf_ok (c : SlC) (a : SlA) (hm : slMay c = true) (hM : c.cs.length ≤ 8192) (k : Nat) (hk : k < c.cs.length) (w : World) (hin : SlIn w c a) :
    Calls Try.prog 53 #[slV c a, .int .i64 k] w (AnsB w (tdV (leafT c k).1 (leafT c k).2)) := by
  obtain ⟨S, D, M, hS, hS2, hS4, hS64, hcm, -, -, -, hSM, hks, -, hws, hwl⟩ := bld_facts hm hM
  obtain ⟨e1, e2⟩ := prsR_seg hm hS hks (k := k) (by omega)
  have PR := Lib.hid (fun W (hb : Below w.heap.size w W) => Pairs_ok c a (by omega) (by omega) ((k * S : Nat) : Int) (((k + 1) * S : Nat) : Int) W (hin.below hb))
  rw [e1, e2] at PR
  have hlf : leafT c k = if prs c (k * S) ((k + 1) * S) = [] then (0, 0) else (((prs c (k * S) ((k + 1) * S)).getD ((prs c (k * S) ((k + 1) * S)).length - 1) (0, 0)).1, (((prs c (k * S) ((k + 1) * S)).length : Nat) : Int)) := by unfold leafT; rw [hS2]
  have hlen : (prs c (k * S) ((k + 1) * S)).length ≤ 64 := by
    rw [prs_length]
    have := cntW_le c.ws (k * S) ((k + 1) * S)
    have e : (k + 1) * S = k * S + S := by rw [Nat.add_mul, Nat.one_mul]
    omega
  have hk1 : (k : Int) * (S : Int) = ((k * S : Nat) : Int) := by push_cast; rfl
  have hk2 : ((k : Int) + 1) * (S : Int) = (((k + 1) * S : Nat) : Int) := by push_cast; rfl
  have hkb1 : k * S ≤ 65536 := by
    have : k * S ≤ M * S := Nat.mul_le_mul_right _ (by omega)
    rw [Nat.mul_comm M] at this
    omega
  have hkb2 : (k + 1) * S ≤ 65536 := by
    have : (k + 1) * S ≤ M * S := Nat.mul_le_mul_right _ (by omega)
    rw [Nat.mul_comm M] at this
    omega
  obtain ⟨V, hV⟩ : ∃ V, leafT c k = V := ⟨_, rfl⟩
  rw [hV] at hlf ⊢
  generalize prs c (k * S) ((k + 1) * S) = L at *
  generalize k * S = p1 at *
  generalize (k + 1) * S = p2 at *
  obtain ⟨seg, ws, ks, vs, cs, laid⟩ := c
  obtain ⟨wa, ka, va, ca, wc, kc, vc, cc⟩ := a
  dsimp only [slV] at *
  subst hS
  have hkb : k ≤ 8192 := by omega
  clear hin hm hM hks hws hwl e1 e2 hV hcm hk hSM hS2
  cases L with
  | nil =>
    rw [if_pos rfl] at hlf
    subst hlf
    go_enter Try.func53, Try.ntmps53
    go_wp2_with fail
    refine (PR.out _ (by (repeat (first | (with_reducible exact Below.refl _ _) | (with_reducible assumption) | (with_reducible exact Hid.out (by with_reducible assumption)) | (with_reducible refine Below.alloc ?_ ?_ _) | (with_reducible refine Below.setCell ?_ ?_ _) | (with_reducible refine below_drewN ?_ _) | (with_reducible refine Below.drew ?_) | (with_reducible refine below_via (by with_reducible assumption) ?_ ?_) | (first | (with_reducible assumption) | omega | (simp only [World.size_alloc, World.size_setCell, World.size_drew, World.heap_drewN] <;> omega) | (simp <;> omega)))))).mono ?_
    rintro e w1 ⟨vl, rfl, hol, hb1⟩
    have hz_w1 := hb1.size
    try simp only [World.size_alloc, World.size_setCell] at hz_w1
    have all_c : w1.cell? ⟨w.heap.size, 0, none⟩ = some (.int .i64 S) ∧ w1.cell? ⟨w.heap.size, 1, none⟩ = some (.slice wa ws.length wc) ∧ w1.cell? ⟨w.heap.size, 2, none⟩ = some (.slice ka ks.length kc) ∧ w1.cell? ⟨w.heap.size, 3, none⟩ = some (.slice va vs.length vc) ∧ w1.cell? ⟨w.heap.size, 4, none⟩ = some (.slice ca cs.length cc) ∧ w1.cell? ⟨w.heap.size, 5, none⟩ = some (.int .u64 laid) ∧ w1.cell? ⟨w.heap.size + 1, 0, none⟩ = some (.int .i64 0) ∧ w1.cell? ⟨w.heap.size + 1, 1, none⟩ = some (.int .i64 0) := by refine ⟨?_, ?_, ?_, ?_, ?_, ?_, ?_, ?_⟩ <;> (refine (hb1.cell ?_).trans ?_ <;> first | (first | (with_reducible assumption) | omega | (simp only [World.size_alloc, World.size_setCell, World.size_drew, World.heap_drewN] <;> omega) | (simp <;> omega)) | (first | (with_reducible assumption) | ((try simp (disch := first | omega | (simp only [World.size_alloc, World.size_setCell, World.size_drew, World.heap_drewN] <;> omega) | fail) only [World.cell?_alloc_past, World.cell?_alloc_at, World.frozen?_alloc_past, World.frozen?_alloc_at, World.frozen?_setCell, World.cell?_drew, World.frozen?_drew]) <;> first | (with_reducible assumption) | rfl)))
    have all_f : w1.frozen? ⟨w.heap.size + 1, 0, none⟩ = false ∧ w1.frozen? ⟨w.heap.size + 1, 1, none⟩ = false := by refine ⟨?_, ?_⟩ <;> (refine (hb1.frozen ?_).trans ?_ <;> first | (first | (with_reducible assumption) | omega | (simp only [World.size_alloc, World.size_setCell, World.size_drew, World.heap_drewN] <;> omega) | (simp <;> omega)) | (first | (with_reducible assumption) | ((try simp (disch := first | omega | (simp only [World.size_alloc, World.size_setCell, World.size_drew, World.heap_drewN] <;> omega) | fail) only [World.cell?_alloc_past, World.cell?_alloc_at, World.frozen?_alloc_past, World.frozen?_alloc_at, World.frozen?_setCell, World.cell?_drew, World.frozen?_drew]) <;> first | (with_reducible assumption) | rfl)))
    have all_z : w.heap.size < w1.heap.size ∧ w.heap.size + 1 < w1.heap.size := by refine ⟨?_, ?_⟩ <;> (omega)
    obtain ⟨c_t0, c_t1, c_t2, c_t3, c_t4, c_t5, c_r0, c_r1⟩ := all_c
    try clear all_c
    obtain ⟨f_r0, f_r1⟩ := all_f
    try clear all_f
    obtain ⟨z_t, z_r⟩ := all_z
    try clear all_z
    have hB1 : Below w.heap.size w w1 := by (repeat (first | (with_reducible exact Below.refl _ _) | (with_reducible assumption) | (with_reducible exact Hid.out (by with_reducible assumption)) | (with_reducible refine Below.alloc ?_ ?_ _) | (with_reducible refine Below.setCell ?_ ?_ _) | (with_reducible refine below_drewN ?_ _) | (with_reducible refine Below.drew ?_) | (with_reducible refine below_via (by with_reducible assumption) ?_ ?_) | (first | (with_reducible assumption) | omega | (simp only [World.size_alloc, World.size_setCell, World.size_drew, World.heap_drewN] <;> omega) | (simp <;> omega))))
    obtain ⟨la, lc, hvl, -⟩ := owns_news hol
    replace hvl : vl = .slice la 0 lc := hvl
    subst hvl
    clear hol
    go_wp2
    exact bodyPost_ret (results_c rfl rfl (run_loadVar_two Try.underlying92 rfl (by kernel_rfl) (v := .int .i64 0) (u := .int .i64 0) ((World.cell?_setCell_other _ _ _ _ (by simp)).trans (World.cell?_setCell_same _ _ _ c_r0)) (World.cell?_setCell_same _ _ _ ((World.cell?_setCell_other _ _ _ _ (by simp)).trans c_r1)))) rfl ⟨rfl, by (repeat (first | (with_reducible exact Below.refl _ _) | (with_reducible assumption) | (with_reducible exact Hid.out (by with_reducible assumption)) | (with_reducible refine Below.alloc ?_ ?_ _) | (with_reducible refine Below.setCell ?_ ?_ _) | (with_reducible refine below_drewN ?_ _) | (with_reducible refine Below.drew ?_) | (with_reducible refine below_via (by with_reducible assumption) ?_ ?_) | (first | (with_reducible assumption) | omega | (simp only [World.size_alloc, World.size_setCell, World.size_drew, World.heap_drewN] <;> omega) | (simp <;> omega))))⟩
  | cons p r =>
    rw [if_neg (by simp)] at hlf
    obtain ⟨m, hmm⟩ : ∃ m, (p :: r).length = m + 1 := ⟨r.length, rfl⟩
    rw [hmm, Nat.add_sub_cancel] at hlf
    have HMM := Lib.hid hmm
    go_enter Try.func53, Try.ntmps53
    go_wp2_with fail
    refine (PR.out _ (by (repeat (first | (with_reducible exact Below.refl _ _) | (with_reducible assumption) | (with_reducible exact Hid.out (by with_reducible assumption)) | (with_reducible refine Below.alloc ?_ ?_ _) | (with_reducible refine Below.setCell ?_ ?_ _) | (with_reducible refine below_drewN ?_ _) | (with_reducible refine Below.drew ?_) | (with_reducible refine below_via (by with_reducible assumption) ?_ ?_) | (first | (with_reducible assumption) | omega | (simp only [World.size_alloc, World.size_setCell, World.size_drew, World.heap_drewN] <;> omega) | (simp <;> omega)))))).mono ?_
    rintro e w1 ⟨vl, rfl, hol, hb1⟩
    have hz_w1 := hb1.size
    try simp only [World.size_alloc, World.size_setCell] at hz_w1
    have all_c : w1.cell? ⟨w.heap.size, 0, none⟩ = some (.int .i64 S) ∧ w1.cell? ⟨w.heap.size, 1, none⟩ = some (.slice wa ws.length wc) ∧ w1.cell? ⟨w.heap.size, 2, none⟩ = some (.slice ka ks.length kc) ∧ w1.cell? ⟨w.heap.size, 3, none⟩ = some (.slice va vs.length vc) ∧ w1.cell? ⟨w.heap.size, 4, none⟩ = some (.slice ca cs.length cc) ∧ w1.cell? ⟨w.heap.size, 5, none⟩ = some (.int .u64 laid) ∧ w1.cell? ⟨w.heap.size + 1, 0, none⟩ = some (.int .i64 0) ∧ w1.cell? ⟨w.heap.size + 1, 1, none⟩ = some (.int .i64 0) := by refine ⟨?_, ?_, ?_, ?_, ?_, ?_, ?_, ?_⟩ <;> (refine (hb1.cell ?_).trans ?_ <;> first | (first | (with_reducible assumption) | omega | (simp only [World.size_alloc, World.size_setCell, World.size_drew, World.heap_drewN] <;> omega) | (simp <;> omega)) | (first | (with_reducible assumption) | ((try simp (disch := first | omega | (simp only [World.size_alloc, World.size_setCell, World.size_drew, World.heap_drewN] <;> omega) | fail) only [World.cell?_alloc_past, World.cell?_alloc_at, World.frozen?_alloc_past, World.frozen?_alloc_at, World.frozen?_setCell, World.cell?_drew, World.frozen?_drew]) <;> first | (with_reducible assumption) | rfl)))
    have all_f : w1.frozen? ⟨w.heap.size + 1, 0, none⟩ = false ∧ w1.frozen? ⟨w.heap.size + 1, 1, none⟩ = false := by refine ⟨?_, ?_⟩ <;> (refine (hb1.frozen ?_).trans ?_ <;> first | (first | (with_reducible assumption) | omega | (simp only [World.size_alloc, World.size_setCell, World.size_drew, World.heap_drewN] <;> omega) | (simp <;> omega)) | (first | (with_reducible assumption) | ((try simp (disch := first | omega | (simp only [World.size_alloc, World.size_setCell, World.size_drew, World.heap_drewN] <;> omega) | fail) only [World.cell?_alloc_past, World.cell?_alloc_at, World.frozen?_alloc_past, World.frozen?_alloc_at, World.frozen?_setCell, World.cell?_drew, World.frozen?_drew]) <;> first | (with_reducible assumption) | rfl)))
    have all_z : w.heap.size < w1.heap.size ∧ w.heap.size + 1 < w1.heap.size := by refine ⟨?_, ?_⟩ <;> (omega)
    obtain ⟨c_t0, c_t1, c_t2, c_t3, c_t4, c_t5, c_r0, c_r1⟩ := all_c
    try clear all_c
    obtain ⟨f_r0, f_r1⟩ := all_f
    try clear all_f
    obtain ⟨z_t, z_r⟩ := all_z
    try clear all_z
    have hB1 : Below w.heap.size w w1 := by (repeat (first | (with_reducible exact Below.refl _ _) | (with_reducible assumption) | (with_reducible exact Hid.out (by with_reducible assumption)) | (with_reducible refine Below.alloc ?_ ?_ _) | (with_reducible refine Below.setCell ?_ ?_ _) | (with_reducible refine below_drewN ?_ _) | (with_reducible refine Below.drew ?_) | (with_reducible refine below_via (by with_reducible assumption) ?_ ?_) | (first | (with_reducible assumption) | omega | (simp only [World.size_alloc, World.size_setCell, World.size_drew, World.heap_drewN] <;> omega) | (simp <;> omega))))
    obtain ⟨la, lc, hvl, hil, -, -, -, -⟩ := row_of_owns hol
    rw [HMM.out] at hvl
    subst hvl
    obtain ⟨bl, ol, rfl, c0, -, zl⟩ := pr_get hil (i := m) (by rw [hmm]; omega)
    rw [HMM.out] at hlen
    generalize ((p :: r).getD m (0, 0)).1 = x at *
    have hx0 : ((m : Int) + 1 == 0) = false := by simp; omega
    subst hlf
    clear hol hil
    go_wp2
    exact bodyPost_ret (results_c rfl rfl (run_loadVar_two Try.underlying92 rfl (by kernel_rfl) (v := .int .i64 x) (u := .int .i64 ((m : Int) + 1)) ((World.cell?_setCell_other _ _ _ _ (by simp)).trans (World.cell?_setCell_same _ _ _ c_r0)) (World.cell?_setCell_same _ _ _ ((World.cell?_setCell_other _ _ _ _ (by simp)).trans c_r1)))) rfl ⟨by push_cast; rfl, by (repeat (first | (with_reducible exact Below.refl _ _) | (with_reducible assumption) | (with_reducible exact Hid.out (by with_reducible assumption)) | (with_reducible refine Below.alloc ?_ ?_ _) | (with_reducible refine Below.setCell ?_ ?_ _) | (with_reducible refine below_drewN ?_ _) | (with_reducible refine Below.drew ?_) | (with_reducible refine below_via (by with_reducible assumption) ?_ ?_) | (first | (with_reducible assumption) | omega | (simp only [World.size_alloc, World.size_setCell, World.size_drew, World.heap_drewN] <;> omega) | (simp <;> omega))))⟩
end

section
open Go.RowKit Go.Shelf
attribute [local go_sem] Oper.semAt_some

end
end Go.Proofs.Ytbmibaafkgleeaa
