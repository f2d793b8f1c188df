/- Merged: InvTwo, Two. -/
import Derived.Test.YtbmibaafkgleeaaInvL
import Derived.Test.YtbmibaafkgleeaaIdxFacts
namespace Go.Proofs.Ytbmibaafkgleeaa
set_option linter.unusedVariables false
set_option linter.unusedSimpArgs false
section
open Go.RowKit
section
variable {P : Program} {ops : Array Oper} {Q : Exit → Act → World → Prop}

/-- what is owed of one operation: Dn: what has been done -/
def OpOk2 (P : Program) (ops : Array Oper) (Q : Exit → Act → World → Prop) (D : List Nat) (t0 : Array Value) (n : Nat) (ds : List Deferred) (J : World → Prop) (Ext : World → World → Prop) (G : Nat → Value → World → Prop) (R : Nat → Nat → Value → Value → Prop) (k : Nat) (o : Oper) : Prop :=
  ∀ (u : Nat → Value) (a : Act) (w : World), (∀ t, t < n → a.tmps.getD t undef = mixAt D u t0 t) → J w →
    (∀ (j : Nat) (p : Oper), (o.after.any fun e => Region.binds .any e && e.on == j) = true → ops[j]? = some p → G j (valOf u p) w) →
    ∀ Dn : Nat → Prop, (∀ (j : Nat) (p : Oper), Dn j → ops[j]? = some p → G j (valOf u p) w) →
    ∀ K : Act → World → Prop, (∀ v w', (o.dst = none → v = undef) → J w' → G k v w' → (∀ (j : Nat) (p : Oper), Dn j → ops[j]? = some p → R j k (valOf u p) v ∧ R k j v (valOf u p)) → Ext w w' → K (a.put o.dst v) w') → Oper.wp P o a w K Q
def OpsOk2 (P : Program) (ops : Array Oper) (Q : Exit → Act → World → Prop) (D : List Nat) (t0 : Array Value) (n : Nat) (ds : List Deferred) (J : World → Prop) (Ext : World → World → Prop) (G : Nat → Value → World → Prop) (R : Nat → Nat → Value → Value → Prop) : Nat → List Oper → Prop
  | _, [] => True
  | k, o :: rest => OpOk2 P ops Q D t0 n ds J Ext G R k o ∧ OpsOk2 P ops Q D t0 n ds J Ext G R (k + 1) rest
theorem OpsOk2.at {D : List Nat} {t0 : Array Value} {n : Nat} {ds : List Deferred} {J : World → Prop} {Ext : World → World → Prop} {G : Nat → Value → World → Prop} {R : Nat → Nat → Value → Value → Prop} : ∀ {l : List Oper} {k : Nat}, OpsOk2 P ops Q D t0 n ds J Ext G R k l → ∀ {i : Nat} {o : Oper}, l[i]? = some o → OpOk2 P ops Q D t0 n ds J Ext G R (k + i) o
  | [], _, _, i, o, ho => by simp at ho
  | x :: rest, k, h, 0, o, ho => by simp at ho; subst ho; exact h.1
  | x :: rest, k, h, i + 1, o, ho => by
    have := OpsOk2.at h.2 (i := i) (o := o) (by simpa using ho)
    rwa [Nat.add_assoc, Nat.add_comm 1 i] at this

/-- A REGION THAT DRAWS ITS ORDER: its first n operations by what each leaves, the others, which wait for all ahead of them, in the order of the text. -/
theorem wp_region_two {id : Nat} {l : List Oper} {t0 : Array Value} {ds : List Deferred} {w0 : World} {N : Nat} (n : Nat) (hm : P.follows .mixedOrders = true) (hn : t0.size = N) (hB : regionL (l.take n) N = true) (hT : tailL l n = true) (hle : n ≤ l.length)
    (J : World → Prop) (Ext : World → World → Prop) (G : Nat → Value → World → Prop) (R : Nat → Nat → Value → Value → Prop) (hst : ∀ k x w w', Ext w w' → G k x w → G k x w') (hJ : J w0.drew)
    (hop : OpsOk2 P l.toArray Q (dstsOf (l.take n)) t0 N ds J Ext G R 0 (l.take n))
    (hdone : ∀ (u : Nat → Value) (w : World), J w → (∀ (k : Nat) (o : Oper), (l.take n)[k]? = some o → G k (valOf u o) w) → (∀ (j k : Nat) (p o : Oper), j ≠ k → (l.take n)[j]? = some p → (l.take n)[k]? = some o → R j k (valOf u p) (valOf u o)) → wpList P l.toArray Q (l.drop n) { tmps := mixFrame (dstsOf (l.take n)) u t0, defers := ds } w) :
    (Code.region id l.toArray true).wp P Q { tmps := t0, defers := ds } w0 := by
  subst hn
  simp only [regionL, Bool.and_eq_true, List.all_eq_true, decide_eq_true_eq] at hB
  obtain ⟨⟨⟨hnd, hlt⟩, hgd⟩, hac⟩ := hB
  simp only [tailL, List.all_eq_true, List.mem_range, Bool.or_eq_true, decide_eq_true_eq] at hT
  have htk : ∀ {k : Nat} {o : Oper}, (l.take n)[k]? = some o ↔ k < n ∧ l[k]? = some o := by
    intro k o
    rw [List.getElem?_take]
    by_cases h : k < n
    · rw [if_pos h]; exact ⟨fun h1 => ⟨h, h1⟩, fun h1 => h1.2⟩
    · rw [if_neg h]; exact ⟨fun h1 => (by cases h1), fun h1 => absurd h1.1 h⟩
  refine wp_region_any hm (wpAny_invL (ops := l.toArray)
    (fun L a w => ((∀ i, n ≤ i → L.getD i false = false) ∧ ∃ u : Nat → Value, a = { tmps := mixFrame (dstsOf (l.take n)) u t0, defers := ds } ∧ J w ∧ (∀ (k : Nat) (o : Oper), (l.take n)[k]? = some o → L.getD k false = true → G k (valOf u o) w) ∧ ∀ (j k : Nat) (p o : Oper), j ≠ k → (l.take n)[j]? = some p → (l.take n)[k]? = some o → L.getD j false = true → L.getD k false = true → R j k (valOf u p) (valOf u o)) ∨
      (∃ m, n ≤ m ∧ m ≤ l.length ∧ (∀ i, i < m → L.getD i false = true) ∧ (∀ i, m ≤ i → L.getD i false = false) ∧ wpList P l.toArray Q (l.drop m) a w))
    ?_ ?_ ?_ _ _ _ _ (by simp) (leftOf_le _ _) (fun j p hp hj => by simp [Array.getD] at hj) (.inl ⟨fun i _ => by rw [List.size_toArray]; simp [Array.getD], fun t => t0.getD t undef, by rw [mixFrame_start], hJ, fun k o _ h => ?_, fun j k p o _ _ _ h _ => ?_⟩))
  · intro i o ho e he hb
    have hi : i < l.length := (Array.getElem?_eq_some_iff.1 ho).1
    rw [List.getElem?_toArray] at ho
    by_cases hin : i < n
    · have h1 : (l.take n)[i]? = some o := htk.2 ⟨hin, ho⟩
      have := hac i (List.mem_range.2 (List.getElem?_eq_some_iff.1 h1).1)
      rw [h1] at this
      have h2 := Array.all_eq_true_iff_forall_mem.1 this e he
      rw [hb] at h2
      simpa using h2
    · have h1 := hT i hi
      rcases h1 with h1 | h1
      · omega
      · rw [ho] at h1
        simp only [Bool.and_eq_true] at h1
        have h2 := Array.all_eq_true_iff_forall_mem.1 h1.2 e he
        rw [hb] at h2
        simpa using h2
  · rintro L a w i o hs ho hi hall hcl hI
    rw [List.getElem?_toArray] at ho
    have hil : i < l.length := (List.getElem?_eq_some_iff.1 ho).1
    have hilt : i < L.size := by rw [hs]; simpa using hil
    have ahead : n ≤ i → ∀ j, j < i → L.getD j false = true := by
      intro hin j hj
      have h1 := hT i hil
      rcases h1 with h1 | h1
      · omega
      · simp only [Bool.and_eq_true, decide_eq_true_eq] at h1
        have hbit : ((masksOf l []).getD i 0).testBit j = true := by
          have h2 := congrArg (fun m => Nat.testBit m j) h1.1
          simp only [Nat.testBit_mod_two_pow, Nat.testBit_two_pow_sub_one, decide_eq_true hj, Bool.true_and] at h2
          exact h2
        exact masks_sound hcl l [] 0 rfl (fun j => by rw [Nat.zero_add]) (fun i hi => by omega) i o ho hall j hbit
    have later : ∀ (m : Nat), n ≤ m → m = i → (∀ j, m ≤ j → L.getD j false = false) → (∀ j, j < m → L.getD j false = true) → wpList P l.toArray Q (l.drop m) a w →
        wpOp P l.toArray Q i (fun a' w' => ((∀ k, n ≤ k → (L.setIfInBounds i true).getD k false = false) ∧ ∃ u : Nat → Value, a' = { tmps := mixFrame (dstsOf (l.take n)) u t0, defers := ds } ∧ J w' ∧ (∀ (k : Nat) (o : Oper), (l.take n)[k]? = some o → (L.setIfInBounds i true).getD k false = true → G k (valOf u o) w') ∧ ∀ (j k : Nat) (p o : Oper), j ≠ k → (l.take n)[j]? = some p → (l.take n)[k]? = some o → (L.setIfInBounds i true).getD j false = true → (L.setIfInBounds i true).getD k false = true → R j k (valOf u p) (valOf u o)) ∨
          (∃ m, n ≤ m ∧ m ≤ l.length ∧ (∀ k, k < m → (L.setIfInBounds i true).getD k false = true) ∧ (∀ k, m ≤ k → (L.setIfInBounds i true).getD k false = false) ∧ wpList P l.toArray Q (l.drop m) a' w')) a w := by
      rintro m hnm rfl hno hyes hw
      refine wpOp_mono (fun a' w' h => .inr ⟨m + 1, by omega, by omega, fun k hk => ?_, fun k hk => ?_, h⟩) (wpOp_of_list ho hw)
      · by_cases e : k = m
        · subst e; exact set_same hilt
        · rw [set_else e]; exact hyes k (by omega)
      · rw [set_else (by omega)]; exact hno k (by omega)
    rcases hI with ⟨hno, u, rfl, hJw, hG, hR⟩ | ⟨m, hnm, hml, hyes, hno, hw⟩
    · by_cases hin : i < n
      · have htki : (l.take n)[i]? = some o := htk.2 ⟨hin, ho⟩
        have hok := hop.at htki
        rw [Nat.zero_add] at hok
        have hg : o.guard = none := by
          have := hgd o (List.mem_of_getElem? htki)
          cases hx : o.guard with
          | none => rfl
          | some x => rw [hx] at this; cases this
        unfold wpOp
        simp only [List.getElem?_toArray, ho]
        rw [if_pos (by simp [Region.wanted, hg])]
        left
        refine hok u _ w (fun t ht => mixFrame_get ht) hJw (fun j p hj hp => ?_) (fun j => j < n ∧ L.getD j false = true) (fun j p hj hp => hG j p (htk.2 ⟨hj.1, by rw [List.getElem?_toArray] at hp; exact hp⟩) hj.2) _ (fun v w' hv hJ' hG' hR' hE => .inl ⟨fun k hk => by rw [set_else (by omega)]; exact hno k hk, ?_⟩)
        · rw [List.getElem?_toArray] at hp
          obtain ⟨e, he, hbe⟩ := Array.any_eq_true.1 hj
          simp only [Bool.and_eq_true, beq_iff_eq] at hbe
          have hl := hall _ (Array.getElem_mem he) hbe.1
          rw [hbe.2] at hl
          have hjn : j < n := by
            by_cases h : j < n
            · exact h
            · rw [hno j (by omega)] at hl; cases hl
          exact hG j p (htk.2 ⟨hjn, hp⟩) hl
        · cases hd : o.dst with
          | none =>
            refine ⟨u, rfl, hJ', fun k p hp hk => ?_, fun j k p q hjk hp hq hj hk => ?_⟩
            rotate_left
            · have eo : valOf u o = undef := by simp [valOf, hd]
              by_cases ej : j = i
              · subst ej
                obtain rfl : p = o := Option.some.inj (hp.symm.trans htki)
                rw [set_else (fun h => hjk h.symm)] at hk
                rw [eo, ← hv hd]
                exact (hR' k q ⟨(htk.1 hq).1, hk⟩ (by rw [List.getElem?_toArray]; exact (htk.1 hq).2)).2
              · rw [set_else ej] at hj
                by_cases ek : k = i
                · subst ek
                  obtain rfl : q = o := Option.some.inj (hq.symm.trans htki)
                  rw [eo, ← hv hd]
                  exact (hR' j p ⟨(htk.1 hp).1, hj⟩ (by rw [List.getElem?_toArray]; exact (htk.1 hp).2)).1
                · rw [set_else ek] at hk
                  exact hR j k p q hjk hp hq hj hk
            by_cases e : k = i
            · subst e
              obtain rfl : p = o := Option.some.inj (hp.symm.trans htki)
              have : valOf u p = undef := by simp [valOf, hd]
              rw [this, ← hv hd]
              exact hG'
            · rw [set_else e] at hk
              exact hst _ _ _ _ hE (hG k p hp hk)
          | some d =>
            have hdm : (dstsOf (l.take n)).contains d = true := by
              simp only [List.contains_iff_mem]
              exact List.mem_filterMap.2 ⟨o, List.mem_of_getElem? htki, hd⟩
            have keep : ∀ (k : Nat) (p : Oper), (l.take n)[k]? = some p → k ≠ i → valOf (fun t => if t = d then v else u t) p = valOf u p := by
              intro k p hp e
              have hne := nodup_slot hnd htki hp (fun h => e h.symm) hd
              unfold valOf
              cases hpd : p.dst with
              | none => rfl
              | some d' => exact if_neg (fun h => hne (by rw [hpd, h]))
            have own : valOf (fun t => if t = d then v else u t) o = v := by simp [valOf, hd]
            refine ⟨fun t => if t = d then v else u t, by simp only [Act.put, mixFrame_put hdm], hJ', fun k p hp hk => ?_, fun j k p q hjk hp hq hj hk => ?_⟩
            rotate_left
            · by_cases ej : j = i
              · subst ej
                obtain rfl : p = o := Option.some.inj (hp.symm.trans htki)
                rw [set_else (fun h => hjk h.symm)] at hk
                rw [own, keep k q hq (fun h => hjk h.symm)]
                exact (hR' k q ⟨(htk.1 hq).1, hk⟩ (by rw [List.getElem?_toArray]; exact (htk.1 hq).2)).2
              · rw [set_else ej] at hj
                rw [keep j p hp ej]
                by_cases ek : k = i
                · subst ek
                  obtain rfl : q = o := Option.some.inj (hq.symm.trans htki)
                  rw [own]
                  exact (hR' j p ⟨(htk.1 hp).1, hj⟩ (by rw [List.getElem?_toArray]; exact (htk.1 hp).2)).1
                · rw [set_else ek] at hk
                  rw [keep k q hq ek]
                  exact hR j k p q hjk hp hq hj hk
            by_cases e : k = i
            · subst e
              obtain rfl : p = o := Option.some.inj (hp.symm.trans htki)
              simpa [valOf, hd] using hG'
            · rw [set_else e] at hk
              rw [keep k p hp e]
              exact hst _ _ _ _ hE (hG k p hp hk)
      · have hin' : n = i := by
          by_cases e : n = i
          · exact e
          · have := ahead (by omega) n (by omega)
            rw [hno n (Nat.le_refl _)] at this
            cases this
        refine later n (Nat.le_refl _) hin' hno (fun j hj => ahead (by omega) j (by omega)) (hdone u w hJw (fun k p hp => hG k p hp (ahead (by omega) k (by have := (htk.1 hp).1; omega))) fun j k p q hjk hp hq => hR j k p q hjk hp hq (ahead (by omega) j (by have := (htk.1 hp).1; omega)) (ahead (by omega) k (by have := (htk.1 hq).1; omega)))
    · have him : m ≤ i := by
        by_cases h : m ≤ i
        · exact h
        · have := hyes i (by omega); rw [hi] at this; cases this
      have hmi : m = i := by
        by_cases e : m = i
        · exact e
        · have := ahead (by omega) m (by omega)
          rw [hno m (Nat.le_refl _)] at this
          cases this
      exact later m hnm hmi hno hyes hw
  · rintro L a w hs hall hI
    rw [List.size_toArray] at hall
    rcases hI with ⟨hno, u, rfl, hJw, hG, hR⟩ | ⟨m, hnm, hml, hyes, hno, hw⟩
    · have hnl : n = l.length := by
        by_cases e : n = l.length
        · exact e
        · have := hall n (by omega); rw [hno n (Nat.le_refl _)] at this; cases this
      have hq := hdone u w hJw (fun k p hp => hG k p hp (hall k (by have := (htk.1 hp).1; omega))) fun j k p q hjk hp hq => hR j k p q hjk hp hq (hall j (by have := (htk.1 hp).1; omega)) (hall k (by have := (htk.1 hq).1; omega))
      have hd : l.drop n = [] := by rw [hnl]; exact List.drop_length
      rw [hd] at hq
      exact hq
    · have hml' : m = l.length := by
        by_cases e : m = l.length
        · exact e
        · have := hall m (by omega); rw [hno m (Nat.le_refl _)] at this; cases this
      rw [hml', List.drop_length] at hw
      exact hw
  · rw [List.size_toArray] at h
    simp [Array.getD] at h
  · rw [List.size_toArray] at h
    simp [Array.getD] at h
end
end

section
open Go.RowKit

/-- two indexes, their lists in four blocks -/
def IxApart (x y : Value) : Prop := ∀ l a b l' a' b', x = .agg #[l, a, b] → y = .agg #[l', a', b'] → (∀ p q, a.ownBlock = some p → a'.ownBlock = some q → p ≠ q) ∧ (∀ p q, b.ownBlock = some p → b'.ownBlock = some q → p ≠ q)
theorem IxApart.symm {x y : Value} (h : IxApart x y) : IxApart y x := fun l a b l' a' b' h1 h2 => by
  obtain ⟨k1, k2⟩ := h _ _ _ _ _ _ h2 h1
  exact ⟨fun p q hp hq e => k1 q p hq hp e.symm, fun p q hp hq e => k2 q p hq hp e.symm⟩
end
end Go.Proofs.Ytbmibaafkgleeaa
