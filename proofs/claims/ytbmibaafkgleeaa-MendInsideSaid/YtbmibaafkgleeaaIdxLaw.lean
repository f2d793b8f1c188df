/- The index of an array in plain words: it may be; each node tells the count and the greatest key of its run of pairs. No function of the program is walked here. -/
import Derived.Test.YtbmibaafkgleeaaIdxTr
import Derived.Test.YtbmibaafkgleeaaDwnP
namespace Go.Proofs.Ytbmibaafkgleeaa
open Go.RowKit
set_option linter.unusedVariables false
set_option linter.unusedSimpArgs false

/-- what a run of pairs tells -/
def tellT (l : List (Int × Int)) : Int × Int := if l = [] then (0, 0) else ((l.getD (l.length - 1) (0, 0)).1, (l.length : Nat))
theorem leafT_tell (c : SlC) (k : Nat) : leafT c k = tellT (prs c (k * c.seg.toNat) ((k + 1) * c.seg.toNat)) := rfl
theorem tellT_cnt (l : List (Int × Int)) : (tellT l).2 = l.length := by
  unfold tellT
  split
  · rename_i h; rw [h]; rfl
  · rfl
theorem tellT_max {l : List (Int × Int)} (h : l ≠ []) : (tellT l).1 = (l.getD (l.length - 1) (0, 0)).1 := by rw [tellT, if_neg h]
theorem plsW_append (ws : List Int) {a b d : Nat} (h1 : a ≤ b) (h2 : b ≤ d) : plsW ws a b ++ plsW ws b d = plsW ws a d := by
  unfold plsW
  rw [← List.filter_append]
  congr 1
  have := List.range'_append_1 (s := a) (m := b - a) (n := d - b)
  rw [show a + (b - a) = b by omega, show b - a + (d - b) = d - a by omega] at this
  exact this
theorem prs_append (c : SlC) {a b d : Nat} (h1 : a ≤ b) (h2 : b ≤ d) : prs c a b ++ prs c b d = prs c a d := by
  unfold prs
  rw [← List.map_append, plsW_append c.ws h1 h2]
theorem tell_append (a b : List (Int × Int)) : tellT (a ++ b) = abvT (tellT a) (tellT b) := by
  by_cases hb : b = []
  · subst hb
    rw [List.append_nil, abvT, tellT_cnt, tellT_cnt]
    simp only [abM, abC, List.length_nil, Int.ofNat_zero, Int.lt_irrefl, if_false, Int.natCast_zero]
    rw [← tellT_cnt]
  · have hl : 0 < b.length := List.length_pos_iff.2 hb
    have hne : a ++ b ≠ [] := by simp [hb]
    rw [abvT, tellT_cnt, tellT_cnt, tellT_max hb]
    simp only [abM, abC]
    rw [if_pos (by omega), if_pos (by omega)]
    refine Prod.ext ?_ ?_
    · rw [tellT_max hne]
      dsimp only
      rw [List.length_append, List.getD_eq_getElem?_getD, List.getElem?_append_right (by omega), show a.length + b.length - 1 - a.length = b.length - 1 by omega, ← List.getD_eq_getElem?_getD]
    · rw [tellT_cnt, List.length_append]
      dsimp only
      push_cast
      rfl
/-- keys rise -/
def Ris (l : List (Int × Int)) : Prop := l.Pairwise fun p q => p.1 < q.1
theorem ris_of {l : List (Int × Int)} (h : risB l = true) : Ris l := by
  unfold risB at h
  rw [List.all_eq_true] at h
  have h1 : ∀ i, i + 1 < l.length → (l.getD i (0, 0)).1 < (l.getD (i + 1) (0, 0)).1 := fun i hi => by
    have := h (i + 1) (List.mem_range.2 hi)
    simpa [risAt] using this
  have h2 : ∀ j i, i < j → j < l.length → (l.getD i (0, 0)).1 < (l.getD j (0, 0)).1 := by
    intro j
    induction j with
    | zero => intro i hi; omega
    | succ j ih =>
      intro i hi hj
      have := h1 j hj
      by_cases e : i = j
      · subst e; exact this
      · have := ih i (by omega) (by omega); omega
  refine List.pairwise_iff_getElem.2 fun i j hi hj hij => ?_
  have := h2 j i hij hj
  simpa [List.getD_eq_getElem?_getD, hi, hj] using this
theorem Ris.apart {a b : List (Int × Int)} (h : Ris (a ++ b)) : Ris a ∧ Ris b ∧ ∀ p ∈ a, ∀ q ∈ b, p.1 < q.1 := by
  have := List.pairwise_append.1 h
  exact this
theorem Ris.prs {c : SlC} {n : Nat} (h : Ris (prs c 0 n)) {a b : Nat} (h1 : a ≤ b) (h2 : b ≤ n) : Ris (Go.Proofs.Ytbmibaafkgleeaa.prs c a b) := by
  rw [← prs_append c (Nat.zero_le b) h2] at h
  have h3 := h.apart.1
  rw [← prs_append c (Nat.zero_le a) h1] at h3
  exact h3.apart.2.1
theorem last_mem {l : List (Int × Int)} (h : l ≠ []) : l.getD (l.length - 1) (0, 0) ∈ l := by
  have hl : 0 < l.length := List.length_pos_iff.2 h
  rw [List.getD_eq_getElem?_getD, List.getElem?_eq_getElem (by omega)]
  exact List.getElem_mem _
theorem tell_own {l : List (Int × Int)} (h : l.length ≤ 65536) : ownB (tellT l).1 (tellT l).2 = true := by
  rw [tellT_cnt]
  by_cases e : l = []
  · subst e; decide
  · have hl : 0 < l.length := List.length_pos_iff.2 e
    simp [ownB, e]
    omega
theorem tell_join {a b : List (Int × Int)} (h : Ris (a ++ b)) : joinR (tellT (a ++ b)).1 (tellT (a ++ b)).2 (tellT a).1 (tellT a).2 (tellT b).1 (tellT b).2 = true := by
  have e1 := congrArg Prod.fst (tell_append a b)
  have e2 := congrArg Prod.snd (tell_append a b)
  have e3 := tellT_cnt (a ++ b)
  rw [List.length_append] at e3
  push_cast at e3
  have ea := tellT_cnt a
  have eb := tellT_cnt b
  simp only [abvT] at e1 e2
  simp only [joinR, Bool.and_eq_true, Bool.or_eq_true, decide_eq_true_eq]
  refine ⟨⟨⟨⟨⟨by omega, by omega⟩, by omega⟩, by omega⟩, e1, e2⟩, ?_⟩
  by_cases ha : a = []
  · exact .inl (.inl (by rw [ea, ha]; rfl))
  · by_cases hb : b = []
    · exact .inl (.inr (by rw [eb, hb]; rfl))
    · refine .inr ?_
      rw [tellT_max ha, tellT_max hb]
      exact h.apart.2.2 _ (last_mem ha) _ (last_mem hb)

/-- the run of pairs under a node of a height -/
theorem trH_run {c : SlC} {S M : Nat} (hS : c.seg.toNat = S) : ∀ d n, M ≤ n * 2 ^ d → trH c M d n = tellT (prs c ((n * 2 ^ d - M) * S) ((n * 2 ^ d - M + 2 ^ d) * S)) := by
  intro d
  induction d with
  | zero =>
    intro n h
    rw [Nat.pow_zero, Nat.mul_one] at *
    rw [trH, leafT_tell, hS]
  | succ d ih =>
    intro n h
    have e1 : n * 2 ^ (d + 1) = 2 * n * 2 ^ d := by rw [Nat.pow_succ, Nat.mul_comm 2 n, Nat.mul_assoc, Nat.mul_comm 2]
    have e2 : (2 * n + 1) * 2 ^ d = 2 * n * 2 ^ d + 2 ^ d := by rw [Nat.add_mul, Nat.one_mul]
    have e3 : 2 ^ (d + 1) = 2 ^ d + 2 ^ d := by rw [Nat.pow_succ]; omega
    rw [e1] at h ⊢
    have h2 : M ≤ (2 * n + 1) * 2 ^ d := by rw [e2]; exact Nat.le_trans h (Nat.le_add_right _ _)
    rw [trH, ih (2 * n) h, ih (2 * n + 1) h2, ← tell_append, e2, e3]
    generalize 2 * n * 2 ^ d = X at *
    generalize 2 ^ d = Y at *
    have e4 : X + Y - M = X - M + Y := by omega
    rw [e4, prs_append c (Nat.mul_le_mul_right _ (by omega)) (Nat.mul_le_mul_right _ (by omega)), Nat.add_assoc]
/-- the segments under a node -/
def unF (D n : Nat) : Nat := n * 2 ^ (D - n.log2) - 2 ^ D
def unT (D n : Nat) : Nat := unF D n + 2 ^ (D - n.log2)
theorem un_bd {D n : Nat} (h1 : 1 ≤ n) (h2 : n < 2 ^ (D + 1)) : 2 ^ D ≤ n * 2 ^ (D - n.log2) ∧ n * 2 ^ (D - n.log2) + 2 ^ (D - n.log2) ≤ 2 * 2 ^ D ∧ unT D n ≤ 2 ^ D := by
  obtain ⟨k1, k2⟩ := node_dj h1
  have hl : n.log2 < D + 1 := (Nat.log2_lt (by omega)).2 h2
  have e : 2 ^ D = 2 ^ n.log2 * 2 ^ (D - n.log2) := by rw [← Nat.pow_add]; congr 1; omega
  have k3 : 2 ^ n.log2 * 2 ^ (D - n.log2) ≤ n * 2 ^ (D - n.log2) := Nat.mul_le_mul_right _ k1
  have k4 : (n + 1) * 2 ^ (D - n.log2) ≤ (2 * 2 ^ n.log2) * 2 ^ (D - n.log2) := Nat.mul_le_mul_right _ (by omega)
  rw [Nat.mul_assoc, ← e, Nat.add_mul, Nat.one_mul] at k4
  rw [← e] at k3
  unfold unT unF
  omega
theorem trN_run {c : SlC} {S D n : Nat} (hS : c.seg.toNat = S) (h1 : 1 ≤ n) (h2 : n < 2 ^ (D + 1)) : trN c D n = tellT (prs c (unF D n * S) (unT D n * S)) := by
  rw [trN, trH_run hS _ _ (un_bd h1 h2).1]
  rfl
theorem tlF_map {L : Nat} (hL : 1 ≤ L) (f : Nat → Int) {n : Nat} (h1 : 1 ≤ n) (h2 : n < 2 ^ L) : tlF L ((lay L 1).map f) n = f n := by
  have := bltF_get hL f (fun _ => true) h1 h2
  rw [bltF_all L hL f (fun _ _ _ => rfl), if_pos rfl] at this
  rw [tlF, if_neg (by omega), pcF, if_neg (by omega), plc_get hL h1 h2, Int.toNat_natCast]
  exact this
theorem seek_ris {c : SlC} (h : seekE c = 0) : Ris (prs c 0 c.ks.length) := by
  have hm := seekE_may h
  rw [seekE, if_pos hm] at h
  split at h
  · exact ris_of (by assumption)
  · cases h
/-- what is built of an array -/
theorem bld_vals {c : SlC} (h : bldE c = 0) : ∃ S D : Nat, c.seg = S ∧ c.seg.toNat = S ∧ 4 ≤ S ∧ S ≤ 64 ∧ c.cs.length = 2 ^ D ∧ D ≤ 13 ∧ c.ks.length = S * 2 ^ D ∧ S * 2 ^ D ≤ 65536 ∧ bldL c = ((D + 1 : Nat) : Int) ∧ (bldM c).length = 2 ^ (D + 1) - 1 ∧ (bldC c).length = 2 ^ (D + 1) - 1 ∧
    (∀ n, 1 ≤ n → n < 2 ^ (D + 1) → tlF (D + 1) (bldM c) n = (tellT (prs c (unF D n * S) (unT D n * S))).1 ∧ tlF (D + 1) (bldC c) n = (tellT (prs c (unF D n * S) (unT D n * S))).2) := by
  obtain ⟨h1, h2⟩ := bldE_seek h
  obtain ⟨S, D, M, hS, hS2, h4, h64, hM, hlog, hpow, hD, hSM, hk, -⟩ := bld_facts (seekE_may h1) h2
  have hL : bLev c = D + 1 := by rw [bLev, hM, hlog]
  have e1 : bldM c = (lay (D + 1) 1).map fun n => (trN c D n).1 := by rw [bldM, if_pos h, bMax, hL, hM, hlog]
  have e2 : bldC c = (lay (D + 1) 1).map fun n => (trN c D n).2 := by rw [bldC, if_pos h, bCnt, hL, hM, hlog]
  refine ⟨S, D, hS, hS2, h4, h64, by omega, hD, by rw [hpow]; exact hk, by rw [hpow]; exact hSM, by rw [bldL, if_pos h, hL], ?_, ?_, fun n k1 k2 => ⟨?_, ?_⟩⟩
  · rw [e1, List.length_map, lay_len 1 (by omega)]
  · rw [e2, List.length_map, lay_len 1 (by omega)]
  · rw [e1, tlF_map (by omega) _ k1 k2, trN_run hS2 k1 k2]
  · rw [e2, tlF_map (by omega) _ k1 k2, trN_run hS2 k1 k2]
theorem prs_le {c : SlC} {a b : Nat} : (prs c a b).length ≤ b - a := by
  rw [prs_length]
  exact cntW_le _ _ _
theorem un_two {D n : Nat} (h1 : 1 ≤ n) (h2 : n < 2 ^ D) : unF D (2 * n) = unF D n ∧ unT D (2 * n) = unF D (2 * n + 1) ∧ unT D (2 * n + 1) = unT D n := by
  have hl : n.log2 < D := (Nat.log2_lt (by omega)).2 h2
  have l1 : (2 * n).log2 = n.log2 + 1 := by rw [log2_two (by omega)]; congr 2; omega
  have l2 : (2 * n + 1).log2 = n.log2 + 1 := by rw [log2_two (by omega)]; congr 2; omega
  have e : 2 ^ (D - n.log2) = 2 * 2 ^ (D - (n.log2 + 1)) := by rw [show D - n.log2 = D - (n.log2 + 1) + 1 by omega, Nat.pow_succ]; omega
  have e1 : n * 2 ^ (D - n.log2) = 2 * n * 2 ^ (D - (n.log2 + 1)) := by rw [e, Nat.mul_comm 2 n, Nat.mul_assoc]
  have e2 : (2 * n + 1) * 2 ^ (D - (n.log2 + 1)) = 2 * n * 2 ^ (D - (n.log2 + 1)) + 2 ^ (D - (n.log2 + 1)) := by rw [Nat.add_mul, Nat.one_mul]
  obtain ⟨k1, k2, k3⟩ := un_bd (D := D) h1 (by rw [Nat.pow_succ]; omega)
  unfold unT unF
  rw [l1, l2, e1, e2, e]
  rw [e1] at k1
  omega
/-- the index of an array may be -/
theorem bld_may {c : SlC} (h : bldE c = 0) : ixMay (bldL c) (bldM c) (bldC c) = true := by
  obtain ⟨S, D, hS, hS2, h4, h64, hcs, hD, hk, hSM, hL, hlm, hlc, hv⟩ := bld_vals h
  have hr := seek_ris (bldE_seek h).1
  rw [hk] at hr
  have hp := Nat.two_pow_pos D
  have hp2 : 2 ^ (D + 1) = 2 * 2 ^ D := by rw [Nat.pow_succ]; omega
  have hmul : ∀ x, x ≤ 2 ^ D → x * S ≤ S * 2 ^ D := fun x hx => by rw [Nat.mul_comm]; exact Nat.mul_le_mul_left _ hx
  rw [hL]
  generalize bldM c = ms at *
  generalize bldC c = cs at *
  simp only [ixMay, Bool.and_eq_true, decide_eq_true_eq, Int.toNat_natCast]
  refine ⟨⟨by omega, by omega, by simpa using hlm, by simpa using hlc⟩, allFrom_iff.2 fun n n1 n2 => ?_⟩
  have n3 : n < 2 ^ (D + 1) := by omega
  obtain ⟨u1, u2, u3⟩ := un_bd n1 n3
  have hm3 := hmul _ u3
  have v := hv n n1 n3
  unfold ndB
  rw [Bool.and_eq_true, v.1, v.2]
  refine ⟨tell_own (Nat.le_trans prs_le (by omega)), ?_⟩
  by_cases hn : n < 2 ^ D
  · obtain ⟨t1, t2, t3⟩ := un_two n1 hn
    have va := hv (2 * n) (by omega) (by omega)
    have vb := hv (2 * n + 1) (by omega) (by omega)
    rw [t1] at va
    rw [t3, ← t2] at vb
    rw [va.1, va.2, vb.1, vb.2]
    have o1 : unF D n ≤ unT D (2 * n) := by rw [← t1]; exact Nat.le_add_right _ _
    have o2 : unT D (2 * n) ≤ unT D n := by rw [← t3, t2]; exact Nat.le_add_right _ _
    have o3 := Nat.mul_le_mul_right S o1
    have o4 := Nat.mul_le_mul_right S o2
    have e := prs_append c o3 o4
    rw [← e, tell_join (by rw [e]; exact hr.prs (by omega) hm3), Bool.or_true]
  · rw [decide_eq_true (by omega), Bool.true_or]
end Go.Proofs.Ytbmibaafkgleeaa
