/- Merged: InvEff, EffFact. -/
import Derived.Test.YtbmibaafkgleeaaSlPut
import Derived.Test.YtbmibaafkgleeaaIdxFacts
namespace Go.Proofs.Ytbmibaafkgleeaa
set_option linter.unusedVariables false
set_option linter.unusedSimpArgs false
section
open Go.RowKit
section
variable {P : Program} {ops : Array Oper} {Q : Exit → Act → World → Prop}

def OpsOkE (P : Program) (ops : Array Oper) (Q : Exit → Act → World → Prop) (D : List Nat) (t0 : Array Value) (n : Nat) (ds : List Deferred) (J : World → Prop) (Ext : Nat → World → World → Prop) (G : Nat → (Nat → Value) → World → Prop) : Nat → List Oper → Prop
  | _, [] => True
  | k, o :: rest => OpOkR P ops Q D t0 n ds J (Ext k) G k o ∧ OpsOkE P ops Q D t0 n ds J Ext G (k + 1) rest
theorem OpsOkE.at {D : List Nat} {t0 : Array Value} {n : Nat} {ds : List Deferred} {J : World → Prop} {Ext : Nat → World → World → Prop} {G : Nat → (Nat → Value) → World → Prop} : ∀ {l : List Oper} {k : Nat}, OpsOkE P ops Q D t0 n ds J Ext G k l → ∀ {i : Nat} {o : Oper}, l[i]? = some o → OpOkR P ops Q D t0 n ds J (Ext (k + i)) G (k + i) o
  | [], _, _, i, o, ho => by simp at ho
  | x :: rest, k, h, 0, o, ho => by simp at ho; subst ho; exact h.1
  | x :: rest, k, h, i + 1, o, ho => by
    have := OpsOkE.at h.2 (i := i) (o := o) (by simpa using ho)
    rwa [Nat.add_assoc, Nat.add_comm 1 i] at this

/-- A REGION THAT DRAWS ITS ORDER: its first n operations by what each leaves, the others, which wait for all ahead of them, in the order of the text. -/
theorem wp_region_eff {id : Nat} {l : List Oper} {t0 : Array Value} {ds : List Deferred} {w0 : World} {N : Nat} (n : Nat) (hm : P.follows .mixedOrders = true) (hn : t0.size = N) (hB : regionL (l.take n) N = true) (hT : tailL l n = true) (hle : n ≤ l.length)
    (J : World → Prop) (Ext : Nat → World → World → Prop) (G : Nat → (Nat → Value) → World → Prop) (hst : ∀ i k x w w', k ≠ i → Ext i w w' → G k x w → G k x w') (hdep : ∀ (k : Nat) (u u' : Nat → Value) (w : World), (∀ (j : Nat) (p o : Oper), l[j]? = some p → l[k]? = some o → (j = k ∨ (o.after.any fun e => Region.binds .any e && e.on == j) = true) → valOf u' p = valOf u p) → G k u w → G k u' w) (hJ : J w0.drew)
    (hop : OpsOkE P l.toArray Q (dstsOf (l.take n)) t0 N ds J Ext G 0 (l.take n))
    (hdone : ∀ (u : Nat → Value) (w : World), J w → (∀ (k : Nat) (o : Oper), (l.take n)[k]? = some o → G k u w) → wpList P l.toArray Q (l.drop n) { tmps := mixFrame (dstsOf (l.take n)) u t0, defers := ds } w) :
    (Code.region id l.toArray true).wp P Q { tmps := t0, defers := ds } w0 := by
  subst hn
  simp only [regionL, Bool.and_eq_true, List.all_eq_true, decide_eq_true_eq] at hB
  obtain ⟨⟨⟨hnd, hlt⟩, hgd⟩, hac⟩ := hB
  simp only [tailL, List.all_eq_true, List.mem_range, Bool.or_eq_true, decide_eq_true_eq] at hT
  have htk : ∀ {k : Nat} {o : Oper}, (l.take n)[k]? = some o ↔ k < n ∧ l[k]? = some o := by
    intro k o
    rw [List.getElem?_take]
    by_cases h : k < n
    · rw [if_pos h]; exact ⟨fun h1 => ⟨h, h1⟩, fun h1 => h1.2⟩
    · rw [if_neg h]; exact ⟨fun h1 => (by cases h1), fun h1 => absurd h1.1 h⟩
  refine wp_region_any hm (wpAny_invL (ops := l.toArray)
    (fun L a w => ((∀ i, n ≤ i → L.getD i false = false) ∧ ∃ u : Nat → Value, a = { tmps := mixFrame (dstsOf (l.take n)) u t0, defers := ds } ∧ J w ∧ ∀ (k : Nat) (o : Oper), (l.take n)[k]? = some o → L.getD k false = true → G k u w) ∨
      (∃ m, n ≤ m ∧ m ≤ l.length ∧ (∀ i, i < m → L.getD i false = true) ∧ (∀ i, m ≤ i → L.getD i false = false) ∧ wpList P l.toArray Q (l.drop m) a w))
    ?_ ?_ ?_ _ _ _ _ (by simp) (leftOf_le _ _) (fun j p hp hj => by simp [Array.getD] at hj) (.inl ⟨fun i _ => by rw [List.size_toArray]; simp [Array.getD], fun t => t0.getD t undef, by rw [mixFrame_start], hJ, fun k o _ h => ?_⟩))
  · intro i o ho e he hb
    have hi : i < l.length := (Array.getElem?_eq_some_iff.1 ho).1
    rw [List.getElem?_toArray] at ho
    by_cases hin : i < n
    · have h1 : (l.take n)[i]? = some o := htk.2 ⟨hin, ho⟩
      have := hac i (List.mem_range.2 (List.getElem?_eq_some_iff.1 h1).1)
      rw [h1] at this
      have h2 := Array.all_eq_true_iff_forall_mem.1 this e he
      rw [hb] at h2
      simpa using h2
    · have h1 := hT i hi
      rcases h1 with h1 | h1
      · omega
      · rw [ho] at h1
        simp only [Bool.and_eq_true] at h1
        have h2 := Array.all_eq_true_iff_forall_mem.1 h1.2 e he
        rw [hb] at h2
        simpa using h2
  · rintro L a w i o hs ho hi hall hcl hI
    rw [List.getElem?_toArray] at ho
    have hil : i < l.length := (List.getElem?_eq_some_iff.1 ho).1
    have hilt : i < L.size := by rw [hs]; simpa using hil
    have ahead : n ≤ i → ∀ j, j < i → L.getD j false = true := by
      intro hin j hj
      have h1 := hT i hil
      rcases h1 with h1 | h1
      · omega
      · simp only [Bool.and_eq_true, decide_eq_true_eq] at h1
        have hbit : ((masksOf l []).getD i 0).testBit j = true := by
          have h2 := congrArg (fun m => Nat.testBit m j) h1.1
          simp only [Nat.testBit_mod_two_pow, Nat.testBit_two_pow_sub_one, decide_eq_true hj, Bool.true_and] at h2
          exact h2
        exact masks_sound hcl l [] 0 rfl (fun j => by rw [Nat.zero_add]) (fun i hi => by omega) i o ho hall j hbit
    have later : ∀ (m : Nat), n ≤ m → m = i → (∀ j, m ≤ j → L.getD j false = false) → (∀ j, j < m → L.getD j false = true) → wpList P l.toArray Q (l.drop m) a w →
        wpOp P l.toArray Q i (fun a' w' => ((∀ k, n ≤ k → (L.setIfInBounds i true).getD k false = false) ∧ ∃ u : Nat → Value, a' = { tmps := mixFrame (dstsOf (l.take n)) u t0, defers := ds } ∧ J w' ∧ ∀ (k : Nat) (o : Oper), (l.take n)[k]? = some o → (L.setIfInBounds i true).getD k false = true → G k u w') ∨
          (∃ m, n ≤ m ∧ m ≤ l.length ∧ (∀ k, k < m → (L.setIfInBounds i true).getD k false = true) ∧ (∀ k, m ≤ k → (L.setIfInBounds i true).getD k false = false) ∧ wpList P l.toArray Q (l.drop m) a' w')) a w := by
      rintro m hnm rfl hno hyes hw
      refine wpOp_mono (fun a' w' h => .inr ⟨m + 1, by omega, by omega, fun k hk => ?_, fun k hk => ?_, h⟩) (wpOp_of_list ho hw)
      · by_cases e : k = m
        · subst e; exact set_same hilt
        · rw [set_else e]; exact hyes k (by omega)
      · rw [set_else (by omega)]; exact hno k (by omega)
    rcases hI with ⟨hno, u, rfl, hJw, hG⟩ | ⟨m, hnm, hml, hyes, hno, hw⟩
    · by_cases hin : i < n
      · have htki : (l.take n)[i]? = some o := htk.2 ⟨hin, ho⟩
        have hok := hop.at htki
        rw [Nat.zero_add] at hok
        have hg : o.guard = none := by
          have := hgd o (List.mem_of_getElem? htki)
          cases hx : o.guard with
          | none => rfl
          | some x => rw [hx] at this; cases this
        unfold wpOp
        simp only [List.getElem?_toArray, ho]
        rw [if_pos (by simp [Region.wanted, hg])]
        left
        refine hok u _ w (fun t ht => mixFrame_get ht) hJw (fun j p hj hp => ?_) _ (fun v w' hv hJ' hG' hE => .inl ⟨fun k hk => by rw [set_else (by omega)]; exact hno k hk, ?_⟩)
        · rw [List.getElem?_toArray] at hp
          obtain ⟨e, he, hbe⟩ := Array.any_eq_true.1 hj
          simp only [Bool.and_eq_true, beq_iff_eq] at hbe
          have hl := hall _ (Array.getElem_mem he) hbe.1
          rw [hbe.2] at hl
          have hjn : j < n := by
            by_cases h : j < n
            · exact h
            · rw [hno j (by omega)] at hl; cases hl
          exact hG j p (htk.2 ⟨hjn, hp⟩) hl
        · cases hd : o.dst with
          | none =>
            refine ⟨u, rfl, hJ', fun k p hp hk => ?_⟩
            by_cases e : k = i
            · subst e
              have := hG'
              unfold updR at this
              rw [hd] at this
              exact this
            · rw [set_else e] at hk
              exact hst _ _ _ _ _ e hE (hG k p hp hk)
          | some d =>
            have hdm : (dstsOf (l.take n)).contains d = true := by
              simp only [List.contains_iff_mem]
              exact List.mem_filterMap.2 ⟨o, List.mem_of_getElem? htki, hd⟩
            refine ⟨fun t => if t = d then v else u t, by simp only [Act.put, mixFrame_put hdm], hJ', fun k p hp hk => ?_⟩
            by_cases e : k = i
            · subst e
              have := hG'
              unfold updR at this
              rw [hd] at this
              exact this
            · rw [set_else e] at hk
              refine hst _ _ _ _ _ e hE (hdep k u _ w (fun j p' o' hj ho' hor => ?_) (hG k p hp hk))
              have hjl : L.getD j false = true := by
                rcases hor with rfl | hor
                · exact hk
                · obtain ⟨e', he', hbe⟩ := Array.any_eq_true.1 hor
                  simp only [Bool.and_eq_true, beq_iff_eq] at hbe
                  have := hcl k o' (by rw [List.getElem?_toArray]; exact ho') hk _ (Array.getElem_mem he') hbe.1
                  rw [hbe.2] at this
                  exact this
              have hji : j ≠ i := fun h => by rw [h, hi] at hjl; cases hjl
              have hjn : j < n := by
                by_cases h : j < n
                · exact h
                · rw [hno j (by omega)] at hjl; cases hjl
              have hne := nodup_slot hnd htki (htk.2 ⟨hjn, hj⟩) (fun h => hji h.symm) hd
              unfold valOf
              cases hpd : p'.dst with
              | none => rfl
              | some d' => exact if_neg (fun h => hne (by rw [hpd, h]))
      · have hin' : n = i := by
          by_cases e : n = i
          · exact e
          · have := ahead (by omega) n (by omega)
            rw [hno n (Nat.le_refl _)] at this
            cases this
        refine later n (Nat.le_refl _) hin' hno (fun j hj => ahead (by omega) j (by omega)) (hdone u w hJw fun k p hp => hG k p hp (ahead (by omega) k ?_))
        have := (htk.1 hp).1
        omega
    · have him : m ≤ i := by
        by_cases h : m ≤ i
        · exact h
        · have := hyes i (by omega); rw [hi] at this; cases this
      have hmi : m = i := by
        by_cases e : m = i
        · exact e
        · have := ahead (by omega) m (by omega)
          rw [hno m (Nat.le_refl _)] at this
          cases this
      exact later m hnm hmi hno hyes hw
  · rintro L a w hs hall hI
    rw [List.size_toArray] at hall
    rcases hI with ⟨hno, u, rfl, hJw, hG⟩ | ⟨m, hnm, hml, hyes, hno, hw⟩
    · have hnl : n = l.length := by
        by_cases e : n = l.length
        · exact e
        · have := hall n (by omega); rw [hno n (Nat.le_refl _)] at this; cases this
      have hq := hdone u w hJw fun k p hp => hG k p hp (hall k (by have := (htk.1 hp).1; omega))
      have hd : l.drop n = [] := by rw [hnl]; exact List.drop_length
      rw [hd] at hq
      exact hq
    · have hml' : m = l.length := by
        by_cases e : m = l.length
        · exact e
        · have := hall m (by omega); rw [hno m (Nat.le_refl _)] at this; cases this
      rw [hml', List.drop_length] at hw
      exact hw
  · rw [List.size_toArray] at h
    simp [Array.getD] at h
end
end

section
open Go.RowKit

/-- one block of the type t is written over -/
def StT (t : TypeId) (w w' : World) : Prop := ∃ (b : Nat) (cs cs' : Array Value), w.heap[b]? = some (Obj.cells cs t (0, 0)) ∧ w'.heap[b]? = some (Obj.cells cs' t (0, 0)) ∧ cs'.size = cs.size ∧ w'.heap.size = w.heap.size ∧ ∀ q, q ≠ b → w'.heap[q]? = w.heap[q]?
theorem owns_stT {t e : TypeId} {w w' : World} {B s n : Nat} {v : Value} {xs : List Value} (hs : StT t w w') (hne : e ≠ t) (h : w.ownsRow B e s v n xs) : w'.ownsRow B e s v n xs := by
  obtain ⟨b, cs, cs', h1, h2, h3, h4, h5⟩ := hs
  exact owns_heap h fun k hk => h5 k (row_apart h1 h hne k hk)
theorem three_stT {t : TypeId} {w : World} {b : Nat} {cs : Array Value} (h : w.heap[b]? = some (.cells cs t (0, 0))) (x y z : Value) :
    StT t w (((w.setCell ⟨b, 0, none⟩ x).setCell ⟨b, 1, none⟩ y).setCell ⟨b, 2, none⟩ z) :=
  ⟨b, cs, _, h, heap_setCell_same _ _ _ _ _ _ (heap_setCell_same _ _ _ _ _ _ (heap_setCell_same _ _ _ _ _ _ h)), by simp, by simp only [World.size_setCell], fun q hq => by rw [heap_setCell_ne _ _ _ hq, heap_setCell_ne _ _ _ hq, heap_setCell_ne _ _ _ hq]⟩
structure FactE (t : TypeId) extends FactR RB where
  bears : ∀ v w w', StT t w w' → holds v w → holds v w'
def FactE.any (t : TypeId) : FactE t := ⟨FactR.any RB, fun _ _ _ _ _ => trivial⟩
def FactE.is {t : TypeId} (x : Value) : FactE t := ⟨FactR.is x, fun _ _ _ _ h => h⟩
def FactE.ix (base : Nat) (l : Int) (ms cs : List Int) : FactE 25 :=
  ⟨FactR.ix base l ms cs, fun _ _ _ h ⟨x, y, e, h1, h2⟩ => ⟨x, y, e, owns_stT h (by decide) h1, owns_stT h (by decide) h2⟩⟩
def FactE.sl (base : Nat) (c : SlC) : FactE 25 :=
  ⟨FactR.sl base c, fun _ _ _ h ⟨v1, v2, v3, v4, e, h1, h2, h3, h4⟩ => ⟨v1, v2, v3, v4, e, owns_stT h (by decide) h1, owns_stT h (by decide) h2, owns_stT h (by decide) h3, owns_stT h (by decide) h4⟩⟩
/-- an index and an error, told together -/
def FactR.ixt (base : Nat) (l : Int) (ms cs : List Int) (n : Int) : FactR RB :=
  ⟨fun v w => ∃ x y, v = .tuple #[.agg #[.int .i64 l, x, y], .int .i64 n] ∧ w.ownsRow base 2 1 x ms.length (ms.map (Value.int .i64)) ∧ w.ownsRow base 3 1 y cs.length (cs.map (Value.int .i64)), fun _ _ _ h ⟨x, y, e, h1, h2⟩ => ⟨x, y, e, owns_below h1 h, owns_below h2 h⟩⟩
def FactE.ixt (base : Nat) (l : Int) (ms cs : List Int) (n : Int) : FactE 25 :=
  ⟨FactR.ixt base l ms cs n, fun _ _ _ h ⟨x, y, e, h1, h2⟩ => ⟨x, y, e, owns_stT h (by decide) h1, owns_stT h (by decide) h2⟩⟩
def FactE.box (base : Nat) (t : TypeId) (n : Nat) : FactE t :=
  ⟨FactR.box base t n, fun v w w' h ⟨b, cs, e, hb, hh, hn⟩ => by
    obtain ⟨b', c0, c1, h1, h2, h3, h4, h5⟩ := h
    by_cases eb : b = b'
    · subst eb
      rw [h1] at hh
      cases hh
      exact ⟨b, c1, e, hb, h2, h3.trans hn⟩
    · exact ⟨b, cs, e, hb, (h5 b eb).trans hh, hn⟩⟩

/-- what an operation leaves: a fact of its slot; and of the operation m, that X -/
def effAt {t : TypeId} (m : Nat) (ds : List Nat) (fs : List (FactE t)) (X : (Nat → Value) → World → Prop) (k : Nat) (u : Nat → Value) (w : World) : Prop := (fs.getD k (FactE.any t)).holds (u (ds.getD k 0)) w ∧ (k = m → X u w)
def effExt (t : TypeId) (m i : Nat) (w w' : World) : Prop := (i ≠ m → RB w w') ∧ (i = m → StT t w w')
theorem effAt_stays {t : TypeId} {m : Nat} {ds : List Nat} {fs : List (FactE t)} {X : (Nat → Value) → World → Prop} (hX : ∀ u w w', RB w w' → X u w → X u w') : ∀ i k u w w', k ≠ i → effExt t m i w w' → effAt m ds fs X k u w → effAt m ds fs X k u w' := by
  intro i k u w w' hne hE hG
  by_cases h : i = m
  · exact ⟨(fs.getD k (FactE.any t)).bears _ _ _ (hE.2 h) hG.1, fun e => absurd (e.trans h.symm) hne⟩
  · exact ⟨(fs.getD k (FactE.any t)).stays _ _ _ (hE.1 h) hG.1, fun e => hX _ _ _ (hE.1 h) (hG.2 e)⟩
theorem effAt_dep {t : TypeId} {l : List Oper} {m n : Nat} {ds : List Nat} {fs : List (FactE t)} {X : (Nat → Value) → World → Prop} (dps : List Nat) (hX : ∀ u u' w, (∀ s ∈ dps, u' s = u s) → X u w → X u' w)
    (h : (List.range l.length).all (fun k => match l[k]? with | some o => decide (n ≤ k) || o.dst == some (ds.getD k 0) | none => true) = true)
    (h7 : dps.all (fun s => (List.range l.length).any fun j => match l[j]?, l[m]? with | some p, some o => p.dst == some s && (o.after.any fun e => Region.binds .any e && e.on == j) | _, _ => false) = true) (hfs : fs.length ≤ n) (hll : n ≤ l.length) :
    ∀ (k : Nat) (u u' : Nat → Value) (w : World), (∀ (j : Nat) (p o : Oper), l[j]? = some p → l[k]? = some o → (j = k ∨ (o.after.any fun e => Region.binds .any e && e.on == j) = true) → valOf u' p = valOf u p) → effAt m ds fs X k u w → effAt m ds fs X k u' w := by
  intro k u u' w hv hg
  refine ⟨?_, ?_⟩
  · by_cases hk : n ≤ k
    · rw [List.getD_eq_getElem?_getD, List.getElem?_eq_none (by omega)]; trivial
    · by_cases hl : k < l.length
      · have h1 := List.all_eq_true.1 h k (List.mem_range.2 hl)
        have ho : l[k]? = some l[k] := List.getElem?_eq_getElem hl
        rw [ho] at h1
        simp only [Bool.or_eq_true, decide_eq_true_eq, beq_iff_eq] at h1
        have h2 := h1.resolve_left hk
        have h3 := hv k _ _ ho ho (.inl rfl)
        simp only [valOf, h2] at h3
        rw [h3]
        exact hg.1
      · omega
  · rintro rfl
    refine hX u u' w (fun s hs => ?_) (hg.2 rfl)
    have h1 := List.all_eq_true.1 h7 s hs
    obtain ⟨j, hj, h2⟩ := List.any_eq_true.1 h1
    cases hp : l[j]? with
    | none => rw [hp] at h2; cases h2
    | some p =>
      cases ho : l[k]? with
      | none => rw [hp, ho] at h2; cases h2
      | some o =>
        rw [hp, ho] at h2
        simp only [Bool.and_eq_true, beq_iff_eq] at h2
        have e1 := hv j p o hp ho (.inr h2.2)
        simp only [valOf, h2.1] at e1
        exact e1
/-- the box in slot s holds the struct in slot v -/
def boxX (base s v : Nat) (u : Nat → Value) (w : World) : Prop := ∃ b c0 c1 c2, u s = .pointer (some ⟨b, 0, none⟩) ∧ base ≤ b ∧ u v = .agg #[c0, c1, c2] ∧ w.cell? ⟨b, 0, none⟩ = some c0 ∧ w.cell? ⟨b, 1, none⟩ = some c1 ∧ w.cell? ⟨b, 2, none⟩ = some c2
theorem boxX_stays {base s v : Nat} : ∀ u w w', RB w w' → boxX base s v u w → boxX base s v u w' := by
  rintro u w w' h ⟨b, c0, c1, c2, h1, h2, h3, h4, h5, h6⟩
  have hl := World.block_lt_of_cell? _ _ h4
  dsimp only at hl
  exact ⟨b, c0, c1, c2, h1, h2, h3, (h.cell (p := ⟨b, 0, none⟩) hl).trans h4, (h.cell (p := ⟨b, 1, none⟩) hl).trans h5, (h.cell (p := ⟨b, 2, none⟩) hl).trans h6⟩
theorem boxX_dep {base s v : Nat} : ∀ u u' w, (∀ x ∈ [s, v], u' x = u x) → boxX base s v u w → boxX base s v u' w := by
  rintro u u' w hu ⟨b, c0, c1, c2, h1, h2, h3, h4⟩
  exact ⟨b, c0, c1, c2, (hu s (by simp)).trans h1, h2, (hu v (by simp)).trans h3, h4⟩
end
end Go.Proofs.Ytbmibaafkgleeaa
