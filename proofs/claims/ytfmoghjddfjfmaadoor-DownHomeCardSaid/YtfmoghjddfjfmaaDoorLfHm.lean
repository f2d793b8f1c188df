/- Merged: LeafLaw, HomLaw. -/
import Derived.Test.YtfmoghjddfjfmaaDoorFindAll
import Derived.Test.YtfmoghjddfjfmaaDoorIdxLaw
import Derived.Test.YtfmoghjddfjfmaaDoorDwnP
namespace Go.Proofs.YtfmoghjddfjfmaaDoor
set_option linter.unusedVariables false
set_option linter.unusedSimpArgs false
section
open Go.RowKit

theorem prs_mem {c : SlC} {a b : Nat} {p : Int × Int} : p ∈ prs c a b ↔ ∃ j, (a ≤ j ∧ j < b ∧ bitW c.ws j = true) ∧ (c.ks.getD j 0, c.vs.getD j 0) = p := by
  unfold prs plsW
  rw [List.mem_map]
  constructor
  · rintro ⟨j, hj, rfl⟩
    rw [List.mem_filter, List.mem_range'_1] at hj
    exact ⟨j, ⟨hj.1.1, by omega, hj.2⟩, rfl⟩
  · rintro ⟨j, ⟨h1, h2, h3⟩, rfl⟩
    exact ⟨j, List.mem_filter.2 ⟨List.mem_range'_1.2 ⟨h1, by omega⟩, h3⟩, rfl⟩
theorem Ris.last {l : List (Int × Int)} (h : Ris l) {p : Int × Int} (hp : p ∈ l) : p.1 ≤ (l.getD (l.length - 1) (0, 0)).1 := by
  obtain ⟨i, hi, rfl⟩ := List.getElem_of_mem hp
  rw [List.getD_eq_getElem?_getD, List.getElem?_eq_getElem (by omega), Option.getD_some]
  by_cases e : i = l.length - 1
  · subst e; exact Int.le_refl _
  · exact Int.le_of_lt (List.pairwise_iff_getElem.1 h i (l.length - 1) hi (by omega) (by omega))
/-- does a leaf serve a key? just if a slot of its segment has one that is not below -/
theorem tell_srv {c : SlC} {a b : Nat} {key : Int} (hr : Ris (prs c a b)) :
    srv key (tellT (prs c a b)).1 (tellT (prs c a b)).2 ↔ ∃ j, a ≤ j ∧ j < b ∧ bitW c.ws j = true ∧ key ≤ c.ks.getD j 0 := by
  constructor
  · rintro ⟨h1, h2⟩
    rw [tellT_cnt] at h1
    have hne : prs c a b ≠ [] := by intro e; rw [e] at h1; simp at h1
    rw [tellT_max hne] at h2
    obtain ⟨j, ⟨j1, j2, j3⟩, e⟩ := prs_mem.1 (last_mem hne)
    rw [← e] at h2
    exact ⟨j, j1, j2, j3, h2⟩
  · rintro ⟨j, j1, j2, j3, j4⟩
    have hp : (c.ks.getD j 0, c.vs.getD j 0) ∈ prs c a b := prs_mem.2 ⟨j, ⟨j1, j2, j3⟩, rfl⟩
    have hne : prs c a b ≠ [] := List.ne_nil_of_mem hp
    refine ⟨?_, ?_⟩
    · rw [tellT_cnt]
      have := List.length_pos_of_mem hp
      omega
    · rw [tellT_max hne]
      have := hr.last hp
      dsimp only at this
      omega
/-- the leaves of an array's index -/
theorem leaf_vals {c : SlC} (h : bldE c = 0) : ∃ S D : Nat, c.seg = S ∧ 4 ≤ S ∧ S ≤ 64 ∧ c.cs.length = 2 ^ D ∧ D ≤ 13 ∧ c.ks.length = S * 2 ^ D ∧ S * 2 ^ D ≤ 65536 ∧ bldL c = ((D + 1 : Nat) : Int) ∧
    ∀ k, k < 2 ^ D → tlF (D + 1) (bldM c) (2 ^ D + k) = (tellT (prs c (k * S) ((k + 1) * S))).1 ∧ tlF (D + 1) (bldC c) (2 ^ D + k) = (tellT (prs c (k * S) ((k + 1) * S))).2 := by
  obtain ⟨S, D, hS, hS2, h4, h64, hcs, hD, hk, hSM, hL, hlm, hlc, hv⟩ := bld_vals h
  refine ⟨S, D, hS, h4, h64, hcs, hD, hk, hSM, hL, fun k hk' => ?_⟩
  have hp := Nat.two_pow_pos D
  have hp2 : 2 ^ (D + 1) = 2 * 2 ^ D := by rw [Nat.pow_succ]; omega
  have hlog : (2 ^ D + k).log2 = D := (Nat.log2_eq_iff (by omega)).2 ⟨by omega, by omega⟩
  have u1 : unF D (2 ^ D + k) = k := by rw [unF, hlog, Nat.sub_self, Nat.pow_zero]; omega
  have u2 : unT D (2 ^ D + k) = k + 1 := by rw [unT, u1, hlog, Nat.sub_self, Nat.pow_zero]
  have := hv (2 ^ D + k) (by omega) (by omega)
  rw [u1, u2] at this
  exact this
theorem seg_ris {c : SlC} (h : seekE c = 0) {S D k : Nat} (hk : c.ks.length = S * 2 ^ D) (hk' : k < 2 ^ D) : Ris (prs c (k * S) ((k + 1) * S)) := by
  have hr := seek_ris h
  have h1 : (k + 1) * S ≤ S * 2 ^ D := by rw [Nat.mul_comm S]; exact Nat.mul_le_mul_right _ hk'
  exact hr.prs (Nat.mul_le_mul_right _ (by omega)) (by omega)
/-- the first leaf that serves a key has the key's slot -/
theorem leaf_first {c : SlC} (h : bldE c = 0) {key : Int} {S D r q : Nat} (hS : 4 ≤ S) (hk : c.ks.length = S * 2 ^ D) (hr : r = frS c.ws c.ks c.ks.length key) (hq : q = r / S) :
    (∀ k, k < q → k < 2 ^ D → ¬ srv key (tellT (prs c (k * S) ((k + 1) * S))).1 (tellT (prs c (k * S) ((k + 1) * S))).2) ∧
    (r < c.ks.length → q < 2 ^ D ∧ srv key (tellT (prs c (q * S) ((q + 1) * S))).1 (tellT (prs c (q * S) ((q + 1) * S))).2) := by
  have hs := (bldE_seek h).1
  have F := frS_is c.ws c.ks c.ks.length key
  rw [← hr] at F
  have hqr : q * S ≤ r := by rw [hq]; exact Nat.div_mul_le_self r S
  have hrq : r < (q + 1) * S := by rw [hq, Nat.mul_comm]; exact Nat.lt_mul_div_succ r (by omega)
  refine ⟨fun k hk1 hk2 hsv => ?_, fun hrn => ?_⟩
  · obtain ⟨j, j1, j2, j3, j4⟩ := (tell_srv (seg_ris hs hk hk2)).1 hsv
    have : (k + 1) * S ≤ q * S := Nat.mul_le_mul_right _ hk1
    have := F.low j (by omega) j3
    omega
  · have hq2 : q < 2 ^ D := by
      apply Nat.lt_of_not_le
      intro hle
      have : 2 ^ D * S ≤ q * S := Nat.mul_le_mul_right _ hle
      rw [hk, Nat.mul_comm] at hrn
      omega
    obtain ⟨f1, f2⟩ := F.hit hrn
    exact ⟨hq2, (tell_srv (seg_ris hs hk hq2)).2 ⟨r, hqr, hrq, f1, f2⟩⟩
end

section
open Go.RowKit

theorem homeL_first {key : Int} {l : List (Int × Int)} {q : Nat} {p : Int × Int} (hq : l[q]? = some p) (hs : srv key p.1 p.2) (hn : ∀ (k : Nat) (x : Int × Int), k < q → l[k]? = some x → ¬ srv key x.1 x.2) (i s : Int) :
    homeL key l i s = (i + (q : Int), s + cntL (l.take q), 0) := by
  have hlt : q < l.length := (List.getElem?_eq_some_iff.1 hq).1
  have e : l = l.take q ++ (p :: l.drop (q + 1)) := by
    have h1 := List.take_append_drop q l
    rw [List.drop_eq_getElem_cons hlt] at h1
    rw [(List.getElem?_eq_some_iff.1 hq).2] at h1
    exact h1.symm
  have hno : ∀ x ∈ l.take q, ¬ srv key x.1 x.2 := fun x hx => by
    obtain ⟨k, hk, rfl⟩ := List.getElem_of_mem hx
    rw [List.length_take] at hk
    refine hn k _ (by omega) ?_
    rw [List.getElem_take, List.getElem?_eq_getElem]
  rw [show homeL key l i s = homeL key (l.take q ++ (p :: l.drop (q + 1))) i s by rw [← e], homeL_none _ _ _ _ hno, homeL, if_pos hs, List.length_take, Nat.min_eq_left (by omega)]
theorem cnt_segs {c : SlC} {S F : Nat} {l : List (Int × Int)} (hl : ∀ k, k < F → ∃ m, l[k]? = some (m, ((prs c (k * S) ((k + 1) * S)).length : Int))) : ∀ q, q ≤ F → cntL (l.take q) = (cntW c.ws 0 (q * S) : Nat) := by
  intro q
  induction q with
  | zero => intro _; simp [cntL, cntW]
  | succ q ih =>
    intro hq
    obtain ⟨m, hm⟩ := hl q (by omega)
    have e : l.take (q + 1) = l.take q ++ [(m, ((prs c (q * S) ((q + 1) * S)).length : Int))] := by rw [List.take_add_one, hm]; rfl
    have hmul : q * S ≤ (q + 1) * S := Nat.mul_le_mul_right _ (by omega)
    rw [e, cntL_append, ih (by omega), cntL_cons, ← prs_length, ← prs_length, ← prs_append c (Nat.zero_le _) hmul, List.length_append]
    simp [cntL]
theorem hom_bld {c : SlC} (h : bldE c = 0) (key : Int) :
    (frS c.ws c.ks c.ks.length key = c.ks.length → homT (bldL c) (bldM c) (bldC c) key = (0, 0, 6)) ∧
    (frS c.ws c.ks c.ks.length key < c.ks.length → homT (bldL c) (bldM c) (bldC c) key = (((frS c.ws c.ks c.ks.length key / c.seg.toNat : Nat) : Int), ((cntW c.ws 0 (frS c.ws c.ks c.ks.length key / c.seg.toNat * c.seg.toNat) : Nat) : Int), 0)) := by
  obtain ⟨S, D, hS, h4, h64, hcs, hD, hk, hSM, hL, hv⟩ := leaf_vals h
  have hmay := bld_may h
  have hS2 : c.seg.toNat = S := by omega
  have hls : lvsR (bldL c) (bldM c) (bldC c) = lvs (tlF (D + 1) (bldM c)) (tlF (D + 1) (bldC c)) D 1 := by rw [lvsR, hL, Int.toNat_natCast, Nat.add_sub_cancel]
  have hget : ∀ k, k < 2 ^ D → (lvsR (bldL c) (bldM c) (bldC c))[k]? = some (tellT (prs c (k * S) ((k + 1) * S))) := fun k hk' => by
    have := lvs_get (f := tlF (D + 1) (bldM c)) (g := tlF (D + 1) (bldC c)) D 1 k hk'
    rw [← hls, Nat.one_mul, (hv k hk').1, (hv k hk').2] at this
    exact this
  have hlen : (lvsR (bldL c) (bldM c) (bldC c)).length = 2 ^ D := by rw [hls, lvs_length]
  have ea : homT (bldL c) (bldM c) (bldC c) key = homeL key (lvsR (bldL c) (bldM c) (bldC c)) 0 0 := if_pos hmay
  rw [ea, hS2]
  generalize lvsR (bldL c) (bldM c) (bldC c) = l at *
  obtain ⟨l1, l2⟩ := leaf_first h h4 hk (key := key) rfl rfl
  refine ⟨fun hr => ?_, fun hr => ?_⟩
  · have := homeL_none (key := key) l [] 0 0 (fun p hp hs => by
      obtain ⟨k, hkl, rfl⟩ := List.getElem_of_mem hp
      have hk2 : k < 2 ^ D := by omega
      have hg := hget k hk2
      rw [List.getElem?_eq_getElem hkl] at hg
      have hg := Option.some.inj hg
      rw [hg] at hs
      refine l1 k ?_ hk2 hs
      rw [hr, hk, Nat.mul_div_cancel_left _ (by omega)]
      exact hk2)
    rw [List.append_nil] at this
    rw [this]
    rfl
  · obtain ⟨l3, l4⟩ := l2 hr
    have hf := homeL_first (hget _ l3) l4 (fun k x hk1 hx hs => by
      rw [hget k (by omega)] at hx
      cases hx
      exact l1 k hk1 (by omega) hs) 0 0
    rw [hf, cnt_segs (c := c) (S := S) (F := 2 ^ D) (fun k hk' => ⟨_, by rw [hget k hk', ← tellT_cnt]⟩) _ (by omega)]
    simp
end
end Go.Proofs.YtfmoghjddfjfmaaDoor
