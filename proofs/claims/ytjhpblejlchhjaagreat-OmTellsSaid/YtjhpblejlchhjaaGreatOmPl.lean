/- Lists of handles (om), in plain words. No function of the program is walked here. -/
import Derived.Test.YtjhpblejlchhjaaGreatConfPl
import Derived.Test.YtjhpblejlchhjaaGreatTabB
namespace Go.Proofs.YtjhpblejlchhjaaGreat
set_option maxRecDepth 100000
set_option maxHeartbeats 4000000
open Go.RowKit
set_option linter.unusedVariables false
set_option linter.unusedSimpArgs false

theorem nodup_len {α : Type} [BEq α] [LawfulBEq α] : ∀ {A B : List α}, A.Nodup → (∀ x, x ∈ A → x ∈ B) → A.length ≤ B.length
  | [], _, _, _ => Nat.zero_le _
  | a :: A, B, hn, hs => by
    have h1 : a ∈ B := hs a (List.mem_cons_self ..)
    rw [List.nodup_cons] at hn
    have h2 := nodup_len (A := A) (B := B.erase a) hn.2 (fun x hx => by
      have hne : x ≠ a := fun e => hn.1 (e ▸ hx)
      exact (List.mem_erase_of_ne hne).2 (hs x (List.mem_cons_of_mem _ hx)))
    have h3 := List.length_erase_of_mem h1
    have h4 := List.length_pos_of_mem h1
    simp only [List.length_cons]
    omega
theorem nodup_all {α : Type} [BEq α] [LawfulBEq α] {A B : List α} (hn : A.Nodup) (hs : ∀ x, x ∈ A → x ∈ B) (hl : A.length = B.length) {x : α} (hx : x ∈ B) : x ∈ A := by
  by_cases h : x ∈ A
  · exact h
  · have := nodup_len (A := x :: A) (B := B) (List.nodup_cons.2 ⟨h, hn⟩) (fun y hy => by
      rcases List.mem_cons.1 hy with e | e
      · exact e ▸ hx
      · exact hs y e)
    simp only [List.length_cons] at this
    omega
def lnkAt (s : SlC) (ps : List Int) (i : Nat) : Bool := decide (s.vs.getD i 0 = 0) && (decide (0 ≤ s.ks.getD i 0) && (decide (s.ks.getD i 0 < ps.length) && decide (ps.getD (s.ks.getD i 0).toNat 0 = (i : Int))))
theorem lnkAt_facts {s : SlC} {ps : List Int} {i : Nat} (h : lnkAt s ps i = true) : s.vs.getD i 0 = 0 ∧ 0 ≤ s.ks.getD i 0 ∧ s.ks.getD i 0 < ps.length ∧ ps.getD (s.ks.getD i 0).toNat 0 = (i : Int) := by
  simpa only [lnkAt, Bool.and_eq_true, decide_eq_true_eq] using h
def lnkTo (s : SlC) (ps : List Int) (k : Nat) : Bool := (List.range k).all fun i => !bitW s.ws i || lnkAt s ps i
theorem lnkTo_zero (s : SlC) (ps : List Int) : lnkTo s ps 0 = true := rfl
theorem lnkTo_succ (s : SlC) (ps : List Int) (k : Nat) : lnkTo s ps (k + 1) = (lnkTo s ps k && (!bitW s.ws k || lnkAt s ps k)) := by simp [lnkTo, List.range_succ]
theorem lnkTo_false {s : SlC} {ps : List Int} {k n : Nat} (hk : k < n) (hb : bitW s.ws k = true) (h : lnkAt s ps k = false) : lnkTo s ps n = false := by
  rw [lnkTo, List.all_eq_false]
  exact ⟨k, by simpa using hk, by simp [hb, h]⟩
theorem lnkTo_at {s : SlC} {ps : List Int} {n : Nat} (h : lnkTo s ps n = true) {k : Nat} (hk : k < n) (hb : bitW s.ws k = true) : lnkAt s ps k = true := by
  rw [lnkTo, List.all_eq_true] at h
  have := h k (by simpa using hk)
  simpa [hb] using this
def lnk (s : SlC) (gs ps : List Int) : Bool := decide (cntTo ps gs.length = cntW s.ws 0 s.ks.length) && lnkTo s ps s.ks.length
def omE (c : Cfg) (s : SlC) (gs ps : List Int) : Int := if gapE c s = 0 then (if may gs ps = true ∧ lnk s gs ps = true then 0 else 8) else gapE c s
theorem omE_zero {c : Cfg} {s : SlC} {gs ps : List Int} (h : omE c s gs ps = 0) : gapE c s = 0 ∧ may gs ps = true ∧ lnk s gs ps = true := by
  unfold omE at h
  split at h
  · split at h
    · exact ⟨by assumption, by assumption⟩
    · cases h
  · contradiction
def hdl (s : SlC) (gs : List Int) (a b : Nat) : List (Int × Int) := (plsW s.ws a b).map fun i => (s.ks.getD i 0, gs.getD (s.ks.getD i 0).toNat 0)
theorem hdl_length (s : SlC) (gs : List Int) (a b : Nat) : (hdl s gs a b).length = cntW s.ws a b := by rw [hdl, List.length_map, plsW_length]
def idxN (l : List (Int × Int)) (n g : Int) : Option Nat := l.findIdx? fun x => x == (n, g)
def idxL (l : List (Int × Int)) (n g : Int) : Int := match idxN l n g with | some i => i | none => -1
theorem idxL_at {l : List (Int × Int)} {n g : Int} {k : Nat} (hk : k < l.length) (h : l.getD k (0, 0) = (n, g)) (hb : ∀ i, i < k → l.getD i (0, 0) ≠ (n, g)) : idxL l n g = k := by
  have : idxN l n g = some k := by
    unfold idxN
    rw [List.findIdx?_eq_some_iff_getElem]
    refine ⟨hk, ?_, ?_⟩
    · rw [List.getD_eq_getElem?_getD, List.getElem?_eq_getElem hk] at h
      simpa using h
    · intro j hj e
      have := hb j hj
      rw [List.getD_eq_getElem?_getD, List.getElem?_eq_getElem (by omega)] at this
      exact this (by simpa using e)
  rw [idxL, this]
theorem idxL_none {l : List (Int × Int)} {n g : Int} (hb : ∀ i, i < l.length → l.getD i (0, 0) ≠ (n, g)) : idxL l n g = -1 := by
  have : idxN l n g = none := by
    unfold idxN
    rw [List.findIdx?_eq_none_iff]
    intro x hx
    obtain ⟨i, hi, rfl⟩ := List.getElem_of_mem hx
    have := hb i hi
    rw [List.getD_eq_getElem?_getD, List.getElem?_eq_getElem hi] at this
    simpa using this
  rw [idxL, this]
theorem idxL_cases (l : List (Int × Int)) (n g : Int) : (idxL l n g = -1 ∧ ∀ i, i < l.length → l.getD i (0, 0) ≠ (n, g)) ∨ ∃ k, idxL l n g = (k : Nat) ∧ k < l.length ∧ l.getD k (0, 0) = (n, g) := by
  rcases h : idxN l n g with _ | k
  · refine Or.inl ⟨by rw [idxL, h], fun i hi => ?_⟩
    rw [idxN, List.findIdx?_eq_none_iff] at h
    have := h _ (List.getElem_mem hi)
    rw [List.getD_eq_getElem?_getD, List.getElem?_eq_getElem hi]
    simpa using this
  · refine Or.inr ⟨k, by rw [idxL, h], ?_⟩
    rw [idxN, List.findIdx?_eq_some_iff_getElem] at h
    obtain ⟨hk, e, -⟩ := h
    refine ⟨hk, ?_⟩
    rw [List.getD_eq_getElem?_getD, List.getElem?_eq_getElem hk]
    simpa using e
theorem pls_pair (ws : List Int) (a b : Nat) : (plsW ws a b).Pairwise (· < ·) := by
  unfold plsW
  exact List.Pairwise.filter _ (List.pairwise_lt_range' (step := 1))
theorem pls_mem_iff {ws : List Int} {a b i : Nat} : i ∈ plsW ws a b ↔ (a ≤ i ∧ i < b) ∧ bitW ws i = true := by
  rw [plsW, List.mem_filter, List.mem_range'_1]
  constructor
  · rintro ⟨h, hb⟩; exact ⟨by omega, hb⟩
  · rintro ⟨h, hb⟩; exact ⟨by omega, hb⟩
theorem hdl_at {s : SlC} {gs : List Int} {a b k : Nat} (h : k < (hdl s gs a b).length) :
    ∃ j, (plsW s.ws a b).getD k 0 = j ∧ (a ≤ j ∧ j < b ∧ bitW s.ws j = true) ∧ (hdl s gs a b).getD k (0, 0) = (s.ks.getD j 0, gs.getD (s.ks.getD j 0).toNat 0) := by
  have hk : k < (plsW s.ws a b).length := by rw [hdl, List.length_map] at h; exact h
  have hm : (plsW s.ws a b).getD k 0 ∈ plsW s.ws a b := by
    rw [List.getD_eq_getElem?_getD, List.getElem?_eq_getElem hk]; exact List.getElem_mem hk
  have hm2 := pls_mem_iff.1 hm
  refine ⟨_, rfl, ⟨hm2.1.1, hm2.1.2, hm2.2⟩, ?_⟩
  have e : (plsW s.ws a b)[k] = (plsW s.ws a b).getD k 0 := by rw [List.getD_eq_getElem?_getD, List.getElem?_eq_getElem hk]; rfl
  rw [hdl, List.getD_eq_getElem?_getD, List.getElem?_map, List.getElem?_eq_getElem hk, e]
  rfl
theorem cntTo_count (ps : List Int) : ∀ n, ((List.range n).filter fun k => decide (0 ≤ ps.getD k 0)).length = cntTo ps n
  | 0 => rfl
  | n + 1 => by
    rw [List.range_succ, List.filter_append, List.length_append, cntTo_count ps n, cntTo]
    by_cases h : 0 ≤ ps.getD n 0
    · rw [if_pos h, List.filter_cons, if_pos (by simpa using h)]; rfl
    · rw [if_neg h, List.filter_cons, if_neg (by simpa using h)]; rfl
theorem lnk_slot {s : SlC} {gs ps : List Int} (hm : may gs ps = true) (h : lnk s gs ps = true) {n : Nat} (hn : n < gs.length) (h0 : 0 ≤ ps.getD n 0) : ∃ j, j ∈ plsW s.ws 0 s.ks.length ∧ s.ks.getD j 0 = (n : Int) := by
  simp only [lnk, Bool.and_eq_true, decide_eq_true_eq] at h
  obtain ⟨hc, hl⟩ := h
  have hlen := (may_len hm).1
  have hA : ((plsW s.ws 0 s.ks.length).map fun i => (s.ks.getD i 0).toNat).Nodup := by
    rw [List.Nodup, List.pairwise_map]
    have hp := pls_pair s.ws 0 s.ks.length
    rw [List.pairwise_iff_getElem] at hp ⊢
    intro i j hi hj hij e
    have h1 := hp i j hi hj hij
    have m1 := pls_mem_iff.1 (List.getElem_mem hi)
    have m2 := pls_mem_iff.1 (List.getElem_mem hj)
    have f1 := (lnkAt_facts (lnkTo_at hl m1.1.2 m1.2)).2.2.2
    have f2 := (lnkAt_facts (lnkTo_at hl m2.1.2 m2.2)).2.2.2
    rw [e, f2] at f1
    omega
  have hx : n ∈ (plsW s.ws 0 s.ks.length).map fun i => (s.ks.getD i 0).toNat := by
    refine nodup_all (B := (List.range gs.length).filter fun k => decide (0 ≤ ps.getD k 0)) hA ?_ ?_ ?_
    · intro x hx
      obtain ⟨i, hi, rfl⟩ := List.mem_map.1 hx
      have m1 := pls_mem_iff.1 hi
      have f1 := lnkAt_facts (lnkTo_at hl m1.1.2 m1.2)
      rw [List.mem_filter]
      exact ⟨List.mem_range.2 (by omega), by rw [decide_eq_true_eq, f1.2.2.2]; omega⟩
    · rw [List.length_map, plsW_length, cntTo_count, hc]
    · rw [List.mem_filter]
      exact ⟨List.mem_range.2 hn, by simpa using h0⟩
  obtain ⟨j, hj, e⟩ := List.mem_map.1 hx
  have m1 := pls_mem_iff.1 hj
  have f1 := lnkAt_facts (lnkTo_at hl m1.1.2 m1.2)
  exact ⟨j, hj, by omega⟩
theorem idx_lab {s : SlC} {gs ps : List Int} (hm : may gs ps = true) (h : lnk s gs ps = true) (n g : Int) :
    (isH gs ps n g = false ∧ idxL (hdl s gs 0 s.ks.length) n g = -1) ∨ ∃ k : Nat, isH gs ps n g = true ∧ idxL (hdl s gs 0 s.ks.length) n g = k ∧ k < (plsW s.ws 0 s.ks.length).length ∧ ((plsW s.ws 0 s.ks.length).getD k 0 : Int) = ps.getD n.toNat 0 := by
  have h' := h
  simp only [lnk, Bool.and_eq_true, decide_eq_true_eq] at h'
  have hlen := (may_len hm).1
  rcases idxL_cases (hdl s gs 0 s.ks.length) n g with ⟨e, hn⟩ | ⟨k, e, hk, hg⟩
  · left
    refine ⟨?_, e⟩
    cases hi : isH gs ps n g with
    | false => rfl
    | true =>
      exfalso
      obtain ⟨f1, f2, f3, f4⟩ := isH_facts hi
      obtain ⟨j, hj, ej⟩ := lnk_slot hm h (n := n.toNat) (by omega) f3
      obtain ⟨i, hi2, ei⟩ := List.getElem_of_mem hj
      have hi3 : i < (hdl s gs 0 s.ks.length).length := by rw [hdl, List.length_map]; exact hi2
      obtain ⟨j', e1, -, e2⟩ := hdl_at hi3
      have : (plsW s.ws 0 s.ks.length).getD i 0 = j := by rw [List.getD_eq_getElem?_getD, List.getElem?_eq_getElem hi2, ei]; rfl
      rw [this] at e1
      subst e1
      refine hn i hi3 ?_
      rw [e2, ej]
      have : ((n.toNat : Nat) : Int) = n := by omega
      rw [this, f4]
  · right
    obtain ⟨j, e1, ⟨-, b2, b3⟩, e2⟩ := hdl_at hk
    rw [hg] at e2
    injection e2 with q1 q2
    have f1 := lnkAt_facts (lnkTo_at h'.2 b2 b3)
    rw [← q1] at f1 q2
    refine ⟨k, ?_, e, by rw [hdl, List.length_map] at hk; exact hk, by rw [e1, f1.2.2.2]⟩
    simp only [isH, Bool.and_eq_true, decide_eq_true_eq]
    exact ⟨⟨⟨f1.2.1, by omega⟩, by rw [f1.2.2.2]; omega⟩, q2.symm⟩
theorem pls_mono {ws : List Int} {a b i k : Nat} (hk : k < (plsW ws a b).length) (h : i < k) : (plsW ws a b).getD i 0 < (plsW ws a b).getD k 0 := by
  have hp := pls_pair ws a b
  rw [List.pairwise_iff_getElem] at hp
  have := hp i k (by omega) hk h
  rw [List.getD_eq_getElem?_getD, List.getElem?_eq_getElem (by omega), List.getD_eq_getElem?_getD, List.getElem?_eq_getElem hk]
  exact this
def labE (c : Cfg) (s : SlC) (gs ps : List Int) (n g : Int) : Int := if omE c s gs ps = 0 then (if isH gs ps n g = true then 0 else 140) else omE c s gs ps
def labV (c : Cfg) (s : SlC) (gs ps : List Int) (n g : Int) : Int := if omE c s gs ps = 0 ∧ isH gs ps n g = true then ps.getD n.toNat 0 else 0
def cmpE (c : Cfg) (s : SlC) (gs ps : List Int) (n g m h : Int) : Int := if labE c s gs ps n g = 0 then labE c s gs ps m h else labE c s gs ps n g
def cmpI (x y : Int) : Int := if x < y then -1 else if y < x then 1 else 0
def cmpV (c : Cfg) (s : SlC) (gs ps : List Int) (n g m h : Int) : Int := if labE c s gs ps n g = 0 ∧ labE c s gs ps m h = 0 then cmpI (labV c s gs ps n g) (labV c s gs ps m h) else 0
theorem idx_cmp {c : Cfg} {s : SlC} {gs ps : List Int} (h : omE c s gs ps = 0) (n g m k : Int) (h1 : 0 ≤ idxL (hdl s gs 0 s.ks.length) n g) (h2 : 0 ≤ idxL (hdl s gs 0 s.ks.length) m k) :
    cmpI (labV c s gs ps n g) (labV c s gs ps m k) = cmpI (idxL (hdl s gs 0 s.ks.length) n g) (idxL (hdl s gs 0 s.ks.length) m k) := by
  obtain ⟨-, hm, hl⟩ := omE_zero h
  rcases idx_lab hm hl n g with ⟨-, e⟩ | ⟨i, a1, a2, a3, a4⟩
  · omega
  · rcases idx_lab hm hl m k with ⟨-, e⟩ | ⟨j, b1, b2, b3, b4⟩
    · omega
    · have e1 : labV c s gs ps n g = ps.getD n.toNat 0 := by simp [labV, h, a1]
      have e2 : labV c s gs ps m k = ps.getD m.toNat 0 := by simp [labV, h, b1]
      rw [e1, e2, a2, b2, ← a4, ← b4]
      have q1 := @pls_mono s.ws 0 s.ks.length i j b3
      have q2 := @pls_mono s.ws 0 s.ks.length j i a3
      unfold cmpI
      rcases Nat.lt_trichotomy i j with q | q | q
      · have := q1 q
        simp only [show (((plsW s.ws 0 s.ks.length).getD i 0 : Nat) : Int) < ((plsW s.ws 0 s.ks.length).getD j 0 : Nat) by omega, show (i : Int) < (j : Int) by omega, if_true]
      · subst q; simp
      · have := q2 q
        rw [if_neg (by omega), if_pos (by omega), if_neg (by omega), if_pos (by omega)]
theorem idx_lab0 {c : Cfg} {s : SlC} {gs ps : List Int} (h : omE c s gs ps = 0) (n g : Int) : (0 ≤ idxL (hdl s gs 0 s.ks.length) n g ↔ isH gs ps n g = true) := by
  obtain ⟨-, hm, hl⟩ := omE_zero h
  rcases idx_lab hm hl n g with ⟨a, e⟩ | ⟨i, a1, a2, a3, a4⟩
  · rw [a, e]; simp
  · rw [a1, a2]; simp
end Go.Proofs.YtjhpblejlchhjaaGreat
