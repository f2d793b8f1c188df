/- Merged: InvEff, PutK, Amg8. -/
import Derived.Test.YtookgoidlnlckaaDoorGapDenseP14
import Derived.Test.YtookgoidlnlckaaDoorGapDenseP22
import Derived.Test.YtookgoidlnlckaaDoorGapDenseP23
import Derived.Test.YtookgoidlnlckaaDoorGapDenseP2
import Derived.Test.YtookgoidlnlckaaDoorGapDenseP13
import Derived.Test.YtookgoidlnlckaaDoorGapDenseP10
namespace Go.Proofs.YtookgoidlnlckaaDoor
set_option maxRecDepth 100000
set_option maxHeartbeats 4000000
set_option linter.unusedVariables false
set_option linter.unusedSimpArgs false
section
open Go.RowKit
section
variable {P : Program} {ops : Array Oper} {Q : Exit → Act → World → Prop}
def OpsOkE (P : Program) (ops : Array Oper) (Q : Exit → Act → World → Prop) (D : List Nat) (t0 : Array Value) (n : Nat) (ds : List Deferred) (J : World → Prop) (Ext : Nat → World → World → Prop) (G : Nat → (Nat → Value) → World → Prop) : Nat → List Oper → Prop
  | _, [] => True
  | k, o :: rest => OpOkR P ops Q D t0 n ds J (Ext k) G k o ∧ OpsOkE P ops Q D t0 n ds J Ext G (k + 1) rest
theorem OpsOkE.at {D : List Nat} {t0 : Array Value} {n : Nat} {ds : List Deferred} {J : World → Prop} {Ext : Nat → World → World → Prop} {G : Nat → (Nat → Value) → World → Prop} : ∀ {l : List Oper} {k : Nat}, OpsOkE P ops Q D t0 n ds J Ext G k l → ∀ {i : Nat} {o : Oper}, l[i]? = some o → OpOkR P ops Q D t0 n ds J (Ext (k + i)) G (k + i) o
  | [], _, _, i, o, ho => by simp at ho
  | x :: rest, k, h, 0, o, ho => by simp at ho; subst ho; exact h.1
  | x :: rest, k, h, i + 1, o, ho => by
   have := OpsOkE.at h.2 (i := i) (o := o) (by simpa using ho)
   rwa [Nat.add_assoc, Nat.add_comm 1 i] at this
theorem wp_region_eff {id : Nat} {l : List Oper} {t0 : Array Value} {ds : List Deferred} {w0 : World} {N : Nat} (n : Nat) (hm : P.follows .mixedOrders = true) (hn : t0.size = N) (hB : regionL (l.take n) N = true) (hT : tailL l n = true) (hle : n ≤ l.length)
    (J : World → Prop) (Ext : Nat → World → World → Prop) (G : Nat → (Nat → Value) → World → Prop) (hst : ∀ i k x w w', k ≠ i → Ext i w w' → G k x w → G k x w') (hdep : ∀ (k : Nat) (u u' : Nat → Value) (w : World), (∀ (j : Nat) (p o : Oper), l[j]? = some p → l[k]? = some o → (j = k ∨ (o.after.any fun e => Region.binds .any e && e.on == j) = true) → valOf u' p = valOf u p) → G k u w → G k u' w) (hJ : J w0.drew)
    (hop : OpsOkE P l.toArray Q (dstsOf (l.take n)) t0 N ds J Ext G 0 (l.take n))
    (hdone : ∀ (u : Nat → Value) (w : World), J w → (∀ (k : Nat) (o : Oper), (l.take n)[k]? = some o → G k u w) → wpList P l.toArray Q (l.drop n) { tmps := mixFrame (dstsOf (l.take n)) u t0, defers := ds } w) :
    (Code.region id l.toArray true).wp P Q { tmps := t0, defers := ds } w0 := by
 subst hn
 simp only [regionL, Bool.and_eq_true, List.all_eq_true, decide_eq_true_eq] at hB
 obtain ⟨⟨⟨hnd, hlt⟩, hgd⟩, hac⟩ := hB
 simp only [tailL, List.all_eq_true, List.mem_range, Bool.or_eq_true, decide_eq_true_eq] at hT
 have htk : ∀ {k : Nat} {o : Oper}, (l.take n)[k]? = some o ↔ k < n ∧ l[k]? = some o := by
  intro k o
  rw [List.getElem?_take]
  by_cases h : k < n
  · rw [if_pos h]; exact ⟨fun h1 => ⟨h, h1⟩, fun h1 => h1.2⟩
  · rw [if_neg h]; exact ⟨fun h1 => (by cases h1), fun h1 => absurd h1.1 h⟩
 refine wp_region_any hm (wpAny_invL (ops := l.toArray)
   (fun L a w => ((∀ i, n ≤ i → L.getD i false = false) ∧ ∃ u : Nat → Value, a = { tmps := mixFrame (dstsOf (l.take n)) u t0, defers := ds } ∧ J w ∧ ∀ (k : Nat) (o : Oper), (l.take n)[k]? = some o → L.getD k false = true → G k u w) ∨
     (∃ m, n ≤ m ∧ m ≤ l.length ∧ (∀ i, i < m → L.getD i false = true) ∧ (∀ i, m ≤ i → L.getD i false = false) ∧ wpList P l.toArray Q (l.drop m) a w))
   ?_ ?_ ?_ _ _ _ _ (by simp) (leftOf_le _ _) (fun j p hp hj => by simp [Array.getD] at hj) (.inl ⟨fun i _ => by rw [List.size_toArray]; simp [Array.getD], fun t => t0.getD t undef, by rw [mixFrame_start], hJ, fun k o _ h => ?_⟩))
 · intro i o ho e he hb
   have hi : i < l.length := (Array.getElem?_eq_some_iff.1 ho).1
   rw [List.getElem?_toArray] at ho
   by_cases hin : i < n
   · have h1 : (l.take n)[i]? = some o := htk.2 ⟨hin, ho⟩
     have := hac i (List.mem_range.2 (List.getElem?_eq_some_iff.1 h1).1)
     rw [h1] at this
     have h2 := Array.all_eq_true_iff_forall_mem.1 this e he
     rw [hb] at h2
     simpa using h2
   · have h1 := hT i hi
     rcases h1 with h1 | h1
     · omega
     · rw [ho] at h1
       simp only [Bool.and_eq_true] at h1
       have h2 := Array.all_eq_true_iff_forall_mem.1 h1.2 e he
       rw [hb] at h2
       simpa using h2
 · rintro L a w i o hs ho hi hall hcl hI
   rw [List.getElem?_toArray] at ho
   have hil : i < l.length := (List.getElem?_eq_some_iff.1 ho).1
   have hilt : i < L.size := by rw [hs]; simpa using hil
   have ahead : n ≤ i → ∀ j, j < i → L.getD j false = true := by
    intro hin j hj
    have h1 := hT i hil
    rcases h1 with h1 | h1
    · omega
    · simp only [Bool.and_eq_true, decide_eq_true_eq] at h1
      have hbit : ((masksOf l []).getD i 0).testBit j = true := by
       have h2 := congrArg (fun m => Nat.testBit m j) h1.1
       simp only [Nat.testBit_mod_two_pow, Nat.testBit_two_pow_sub_one, decide_eq_true hj, Bool.true_and] at h2
       exact h2
      exact masks_sound hcl l [] 0 rfl (fun j => by rw [Nat.zero_add]) (fun i hi => by omega) i o ho hall j hbit
   have later : ∀ (m : Nat), n ≤ m → m = i → (∀ j, m ≤ j → L.getD j false = false) → (∀ j, j < m → L.getD j false = true) → wpList P l.toArray Q (l.drop m) a w →
       wpOp P l.toArray Q i (fun a' w' => ((∀ k, n ≤ k → (L.setIfInBounds i true).getD k false = false) ∧ ∃ u : Nat → Value, a' = { tmps := mixFrame (dstsOf (l.take n)) u t0, defers := ds } ∧ J w' ∧ ∀ (k : Nat) (o : Oper), (l.take n)[k]? = some o → (L.setIfInBounds i true).getD k false = true → G k u w') ∨
         (∃ m, n ≤ m ∧ m ≤ l.length ∧ (∀ k, k < m → (L.setIfInBounds i true).getD k false = true) ∧ (∀ k, m ≤ k → (L.setIfInBounds i true).getD k false = false) ∧ wpList P l.toArray Q (l.drop m) a' w')) a w := by
    rintro m hnm rfl hno hyes hw
    refine wpOp_mono (fun a' w' h => .inr ⟨m + 1, by omega, by omega, fun k hk => ?_, fun k hk => ?_, h⟩) (wpOp_of_list ho hw)
    · by_cases e : k = m
      · subst e; exact set_same hilt
      · rw [set_else e]; exact hyes k xo
    · rw [set_else xo]; exact hno k xo
   rcases hI with ⟨hno, u, rfl, hJw, hG⟩ | ⟨m, hnm, hml, hyes, hno, hw⟩
   · by_cases hin : i < n
     · have htki : (l.take n)[i]? = some o := htk.2 ⟨hin, ho⟩
       have hok := hop.at htki
       rw [Nat.zero_add] at hok
       have hg : o.guard = none := by
        have := hgd o (List.mem_of_getElem? htki)
        cases hx : o.guard with
        | none => rfl
        | some x => rw [hx] at this; cases this
       unfold wpOp
       simp only [List.getElem?_toArray, ho]
       rw [if_pos (by simp [Region.wanted, hg])]
       left
       refine hok u _ w (fun t ht => mixFrame_get ht) hJw (fun j p hj hp => ?_) _ (fun v w' hv hJ' hG' hE => .inl ⟨fun k hk => by rw [set_else xo]; exact hno k hk, ?_⟩)
       · rw [List.getElem?_toArray] at hp
         obtain ⟨e, he, hbe⟩ := Array.any_eq_true.1 hj
         simp only [Bool.and_eq_true, beq_iff_eq] at hbe
         have hl := hall _ (Array.getElem_mem he) hbe.1
         rw [hbe.2] at hl
         have hjn : j < n := by
          by_cases h : j < n
          · exact h
          · rw [hno j xo] at hl; cases hl
         exact hG j p (htk.2 ⟨hjn, hp⟩) hl
       · cases hd : o.dst with
         | none =>
          refine ⟨u, rfl, hJ', fun k p hp hk => ?_⟩
          by_cases e : k = i
          · subst e
            have := hG'
            unfold updR at this
            rw [hd] at this
            exact this
          · rw [set_else e] at hk
            exact hst _ _ _ _ _ e hE (hG k p hp hk)
         | some d =>
          have hdm : (dstsOf (l.take n)).contains d = true := by
           simp only [List.contains_iff_mem]
           exact List.mem_filterMap.2 ⟨o, List.mem_of_getElem? htki, hd⟩
          refine ⟨fun t => if t = d then v else u t, by simp only [Act.put, mixFrame_put hdm], hJ', fun k p hp hk => ?_⟩
          by_cases e : k = i
          · subst e
            have := hG'
            unfold updR at this
            rw [hd] at this
            exact this
          · rw [set_else e] at hk
            refine hst _ _ _ _ _ e hE (hdep k u _ w (fun j p' o' hj ho' hor => ?_) (hG k p hp hk))
            have hjl : L.getD j false = true := by
             rcases hor with rfl | hor
             · exact hk
             · obtain ⟨e', he', hbe⟩ := Array.any_eq_true.1 hor
               simp only [Bool.and_eq_true, beq_iff_eq] at hbe
               have := hcl k o' (by rw [List.getElem?_toArray]; exact ho') hk _ (Array.getElem_mem he') hbe.1
               rw [hbe.2] at this
               exact this
            have hji : j ≠ i := fun h => by rw [h, hi] at hjl; cases hjl
            have hjn : j < n := by
             by_cases h : j < n
             · exact h
             · rw [hno j xo] at hjl; cases hjl
            have hne := nodup_slot hnd htki (htk.2 ⟨hjn, hj⟩) (fun h => hji h.symm) hd
            unfold valOf
            cases hpd : p'.dst with
            | none => rfl
            | some d' => exact if_neg (fun h => hne (by rw [hpd, h]))
     · have hin' : n = i := by
         by_cases e : n = i
         · exact e
         · have := ahead xo n xo
           rw [hno n (Nat.le_refl _)] at this
           cases this
       refine later n (Nat.le_refl _) hin' hno (fun j hj => ahead xo j xo) (hdone u w hJw fun k p hp => hG k p hp (ahead xo k ?_))
       have := (htk.1 hp).1
       omega
   · have him : m ≤ i := by
       by_cases h : m ≤ i
       · exact h
       · have := hyes i xo; rw [hi] at this; cases this
     have hmi : m = i := by
      by_cases e : m = i
      · exact e
      · have := ahead xo m xo
        rw [hno m (Nat.le_refl _)] at this
        cases this
     exact later m hnm hmi hno hyes hw
 · rintro L a w hs hall hI
   rw [List.size_toArray] at hall
   rcases hI with ⟨hno, u, rfl, hJw, hG⟩ | ⟨m, hnm, hml, hyes, hno, hw⟩
   · have hnl : n = l.length := by
       by_cases e : n = l.length
       · exact e
       · have := hall n xo; rw [hno n (Nat.le_refl _)] at this; cases this
     have hq := hdone u w hJw fun k p hp => hG k p hp (hall k (by have := (htk.1 hp).1; omega))
     have hd : l.drop n = [] := by rw [hnl]; exact List.drop_length
     rw [hd] at hq
     exact hq
   · have hml' : m = l.length := by
       by_cases e : m = l.length
       · exact e
       · have := hall m xo; rw [hno m (Nat.le_refl _)] at this; cases this
     rw [hml', List.drop_length] at hw
     exact hw
 · rw [List.size_toArray] at h
   simp [Array.getD] at h
end
end
section
open Go.RowKit
theorem prI_take (L : List (Int × Int)) : ∀ k, prI (L.take k) = (prI L).take (k * 2) := by
 induction L with
 | nil => intro k; simp [prI]
 | cons x L ih =>
  intro k
  cases k with
  | zero => simp [prI]
  | succ k =>
   have := ih k
   rw [List.take_succ_cons, show (k + 1) * 2 = k * 2 + 1 + 1 by omega]
   simp only [prI, List.flatMap_cons, List.cons_append, List.nil_append, List.take_succ_cons] at this ⊢
   rw [this]
theorem prI_drop (L : List (Int × Int)) : ∀ k, prI (L.drop k) = (prI L).drop (k * 2) := by
 induction L with
 | nil => intro k; simp [prI]
 | cons x L ih =>
  intro k
  cases k with
  | zero => simp [prI]
  | succ k =>
   have := ih k
   rw [List.drop_succ_cons, show (k + 1) * 2 = k * 2 + 1 + 1 by omega]
   simp only [prI, List.flatMap_cons, List.cons_append, List.nil_append, List.drop_succ_cons] at this ⊢
   rw [this]
section
variable {P : Program}
theorem wp_scope_fwd {c B : Code} (l : Nat) {Q : Exit → Act → World → Prop} {a : Act} {w : World} (hf : findLabel c l = some (.seq .skip B))
    (h : c.wp P (Exit.jump l (fun a w => B.wp P (Exit.jump l (fun _ _ => False) Q) a w) Q) a w) : (Code.scope c).wp P Q a w := by
 refine wp_scope_loop l (fun _ a w => B.wp P (Exit.jump l (fun _ _ => False) Q) a w) hf ?_ ?_
 · intro n a w h H _
   refine Code.wp_mono ?_ h
   intro e a' w' q
   cases e <;> simp only [Exit.jump] at q ⊢ <;> first | exact q | skip
   exact q.2.elim
 · intro H hJ _
   refine Code.wp_mono ?_ h
   intro e a' w' q
   cases e <;> simp only [Exit.jump] at q ⊢ <;> first | exact q | skip
   exact ⟨q.1, hJ 0 _ _ q.2⟩
theorem exec_slice_from {o : Oper} {a : Act} {w : World} (t e : TypeId) (x y : Operand) (size : Nat) (ao : Option Addr) (m pl k : Nat) (ho : o.op = .slice t x (some y) none none)
    (ht : P.underlying t = some (.slice e)) (hs : (P.info? e).map (·.size) = some size) (hx : a.eval x = .slice ao m pl) (hy : a.eval y = .int .i64 k) (hk : k ≤ m) (hm : m ≤ pl) :
    (execOp a.eval o).run P w = .ok (.value (.slice (if pl = k then ao else ao.map (·.add (k * size))) (m - k) (pl - k))) w := by
 obtain ⟨i, hi, rfl⟩ := Option.map_eq_some_iff.1 hs
 unfold execOp
 simp [ho, hx, hy, Instr.sliceAt, Instr.slice, Instr.sliceBounds, Instr.sliceBound, asIntOf, run_underlying ht, sizeOf, typeInfo, hi, hk, hm]
theorem exec_slice_full {o : Oper} {a : Act} {w : World} (t e : TypeId) (x y z : Operand) (size : Nat) (ao : Option Addr) (m pl k : Nat) (ho : o.op = .slice t x none (some y) (some z))
    (ht : P.underlying t = some (.slice e)) (hs : (P.info? e).map (·.size) = some size) (hx : a.eval x = .slice ao m pl) (hy : a.eval y = .int .i64 k) (hz : a.eval z = .int .i64 k) (hk : k ≤ pl) :
    (execOp a.eval o).run P w = .ok (.value (.slice ao k k)) w := by
 obtain ⟨i, hi, rfl⟩ := Option.map_eq_some_iff.1 hs
 have e : ∀ ad : Addr, ad.add 0 = ad := fun ad => by cases ad; rfl
 unfold execOp
 simp [ho, hx, hy, hz, Instr.sliceAt, Instr.slice, Instr.sliceBounds, Instr.sliceBound, asIntOf, run_underlying ht, sizeOf, typeInfo, hi, hk, e]
theorem exec_slice_from2 {o : Oper} {a : Act} {w : World} (t e : TypeId) (x y : Operand) (size : Nat) (ao : Option Addr) (m pl k : Nat) (da : Option Addr) (hda : (if pl = k then ao else ao.map (·.add (k * size))) = da) (ho : o.op = .slice t x (some y) none none)
    (ht : P.underlying t = some (.slice e)) (hs : (P.info? e).map (·.size) = some size) (hx : a.eval x = .slice ao m pl) (hy : a.eval y = .int .i64 k) (hk : k ≤ m) (hm : m ≤ pl) :
    (execOp a.eval o).run P w = .ok (.value (.slice da (m - k) (pl - k))) w := by
 rw [← hda]; exact exec_slice_from t e x y size ao m pl k ho ht hs hx hy hk hm
theorem wp_value {o : Oper} {a : Act} {w w' : World} {v : Value} {K : Act → World → Prop} {Q : Exit → Act → World → Prop} (h : (execOp a.eval o).run P w = .ok (.value v) w') (hk : K (a.put o.dst v) w') : Oper.wp P o a w K Q := by
 unfold Oper.wp
 simp only [h]
 exact hk
theorem wp_slice_from {w : World} {o : Oper} {a : Act} {K : Act → World → Prop} {Q : Exit → Act → World → Prop} (t e : TypeId) (x y : Operand) (size : Nat) (ao : Option Addr) (m pl k : Nat) (da : Option Addr) (hda : (if pl = k then ao else ao.map (·.add (k * size))) = da) (ho : o.op = .slice t x (some y) none none) (ht : P.underlying t = some (.slice e)) (hs : (P.info? e).map (·.size) = some size) (hx : a.eval x = .slice ao m pl) (hy : a.eval y = .int .i64 k) (hk : k ≤ m) (hm : m ≤ pl)
    (h : K (a.put o.dst (.slice da (m - k) (pl - k))) w) : Oper.wp P o a w K Q :=
  wp_value (exec_slice_from2 (o := o) (a := a) (w := w) t e x y size ao m pl k da hda ho ht hs hx hy hk hm) h
theorem wp_slice_full {w : World} {o : Oper} {a : Act} {K : Act → World → Prop} {Q : Exit → Act → World → Prop} (t e : TypeId) (x y z : Operand) (size : Nat) (ao : Option Addr) (m pl k : Nat) (ho : o.op = .slice t x none (some y) (some z)) (ht : P.underlying t = some (.slice e)) (hs : (P.info? e).map (·.size) = some size) (hx : a.eval x = .slice ao m pl) (hy : a.eval y = .int .i64 k) (hz : a.eval z = .int .i64 k) (hk : k ≤ pl)
    (h : K (a.put o.dst (.slice ao k k)) w) : Oper.wp P o a w K Q :=
  wp_value (exec_slice_full (o := o) (a := a) (w := w) t e x y z size ao m pl k ho ht hs hx hy hz hk) h
theorem exec_append {o : Oper} {a : Act} {w w' : World} {v : Value} {s x : Operand} {t : TypeId} {vs vx : Value} (ho : o.op = .call { callee := .builtin .append, args := #[s, x], argTypes := #[t, t] }) (hs : a.eval s = vs) (hx : a.eval x = vx)
    (hr : (Builtin.append_ #[t, t] o.type #[vs, vx]).run P w = .ok v w') : (execOp a.eval o).run P w = .ok (.value v) w' := by
 unfold execOp
 simp only [ho, resolve, invoke, builtin, Sem.run_bind, Sem.run_pure, Result.andThen_ok, List.map_toArray, List.map_cons, List.map_nil, hs, hx, hr]
theorem run_append_cap (w : World) (base : Nat) (t ty e : TypeId) (z : Value) (size bytes : Nat) (ht : P.underlying t = some (.slice e))
    (hinfo : (P.info? e).map (fun i => (i.zero, i.size, i.bytes)) = some (some z, size, bytes)) (hzs : z.cells.size = size) (hsz : 0 < size)
    (b : Addr) (n : Nat) (xs : List Value) (hown : w.ownsRow base e size (.slice (some b) n n) n xs)
    (ao : Option Addr) (m c : Nat) (news : List Value) (hl : news.length = m * size) (hnone : ao = none → m = 0 ∧ c = 0)
    (hnews : ∀ ad, ao = some ad → ∀ j u, news[j]? = some u → w.cell? (ad.add j) = some u) (h1 : ∀ u ∈ news, u.oneCell' = true)
    (h63 : n + m ≤ 4294967296) (hbytes : bytes ≤ 1024) (hbase : base ≤ w.heap.size) :
    ∃ v' w', (Builtin.append_ #[t, t] ty #[.slice (some b) n n, .slice ao m c]).run P w = .ok v' w' ∧ w'.ownsRow base e size v' (n + m) (xs ++ news) ∧ Below w.heap.size w w' := by
 rcases Nat.eq_zero_or_pos m with rfl | hm
 · have hn : news = [] := List.eq_nil_of_length_eq_zero (by simpa using hl)
   subst hn
   obtain ⟨i, hi, hz, hs, hb⟩ := info_parts hinfo
   refine ⟨.slice (some b) n n, w, ?_, by simpa using hown, Below.refl _ _⟩
   cases ao with
   | none =>
    obtain ⟨-, rfl⟩ := hnone rfl
    exact run_append_owned_none w base t ty e i size ht hi _ n xs hown
   | some ad => simp [Builtin.append_, run_underlying ht, sizeOf, typeInfo, hi, Builtin.lenOf, Builtin.firstCells, loadCells, loadCellsFrom, storeCells]
 · cases ao with
   | none => have := (hnone rfl).1; omega
   | some ad =>
    obtain ⟨g, rfl⟩ : ∃ g, b = ⟨g, 0, none⟩ := by
     obtain ⟨-, ⟨h, -⟩ | ⟨g, cap, cur, h, -⟩⟩ := hown
     · cases h
     · cases h; exact ⟨g, rfl⟩
    obtain ⟨v', w', hr, ho, hg, -⟩ := run_append_full (P := P) w base t ty e z size bytes ht hinfo hzs hsz (some ⟨g, 0, none⟩) n xs hown.1 (fun h => by cases h) (fun b' hb' j u hj => by
     cases hb'
     exact World.ownsRow.cells hown (g := g) rfl j u hj) ad m c news hl (hnews ad rfl) h1 hm h63 hbytes hbase
    exact ⟨v', w', hr, ho, (Below.refl _ _).grown hg (Nat.le_refl _) (fun k hk => by cases hk)⟩
end
theorem setCs_frozen {W : World} {b : Nat} : ∀ (l : List Value) (i : Nat) (a : Addr), (setCs W b i l).frozen? a = W.frozen? a
  | l, i, a => by
   induction l generalizing W i with
   | nil => rfl
   | cons v l ih => rw [setCs, ih]; exact World.frozen?_setCell _ _ _ _
theorem setCs_size : ∀ (l : List Value) (W : World) (b i : Nat), (setCs W b i l).heap.size = W.heap.size
  | [], _, _, _ => rfl
  | v :: l, W, b, i => by rw [setCs, setCs_size l, World.size_setCell]
section
variable {P : Program}
theorem run_append_y (w : World) (base : Nat) (t ty e : TypeId) (z : Value) (size bytes : Nat) (ht : P.underlying t = some (.slice e))
    (hinfo : (P.info? e).map (fun i => (i.zero, i.size, i.bytes)) = some (some z, size, bytes)) (hzs : z.cells.size = size) (hsz : 0 < size)
    (v : Value) (n : Nat) (xs : List Value) (hown : w.ownsRow base e size v n xs)
    (ao : Option Addr) (m c : Nat) (news : List Value) (hl : news.length = m * size) (hnone : ao = none → m = 0 ∧ c = 0)
    (hnews : ∀ ad, ao = some ad → ∀ j u, news[j]? = some u → w.cell? (ad.add j) = some u) (h1 : ∀ u ∈ news, u.oneCell' = true)
    (h63 : n + m ≤ 4294967296) (hbytes : bytes ≤ 1024) (hbase : base ≤ w.heap.size) :
    ∃ v' w', (Builtin.append_ #[t, t] ty #[v, .slice ao m c]).run P w = .ok v' w' ∧ w'.ownsRow base e size v' (n + m) (xs ++ news) ∧ w.grownBy w' v.ownBlock ∧ w'.ownsRow base e size v n xs := by
 obtain ⟨i, hi, hz, hs, hb⟩ := info_parts hinfo
 obtain ⟨v', w', hr, ho, hg, -⟩ := run_append_x (P := P) w base t ty e z size bytes ht hinfo hzs hsz v n xs hown ao m c news hl hnone hnews h1 h63 hbytes hbase
 refine ⟨v', w', hr, ho, hg, ?_⟩
 cases ao with
 | none =>
  obtain ⟨rfl, rfl⟩ := hnone rfl
  have hr2 := run_append_owned_none (P := P) w base t ty e i size ht hi v n xs hown
  rw [hr] at hr2
  cases hr2
  exact hown
 | some ad =>
  have hc := hnews ad rfl
  have hm1 : n + m ≤ maxLen := by unfold maxLen; omega
  have hm2 : (n + m) * bytes ≤ 140737488355328 := Nat.le_trans (Nat.mul_le_mul h63 hbytes) (by decide)
  obtain ⟨hx, ⟨rfl, rfl⟩ | ⟨g, cap, cur, rfl, hbg, hgg, hnc, hcm, hcs, htake⟩⟩ := hown
  · have hx0 : xs = [] := List.eq_nil_of_length_eq_zero (by simpa using hx)
    subst hx0
    exact World.ownsRow_nil _ _ _ _
  · by_cases hroom : n + m ≤ cap
    · obtain ⟨w2, hr2, _⟩ := run_append_fits (P := P) w base t ty e i size ht hi hs g n cap xs ⟨hx, .inr ⟨g, cap, cur, rfl, hbg, hgg, hnc, hcm, hcs, htake⟩⟩ ad m c news hl hc h1 hroom
      rw [hr] at hr2
      cases hr2
      obtain ⟨hx', ⟨h, -⟩ | ⟨g', cap', cur', he, hbg', hgg', hnc', hcm', hcs', htake'⟩⟩ := ho
      · cases h
      · cases he
        refine ⟨hx, .inr ⟨g, cap, cur', rfl, hbg', hgg', hnc, hcm', hcs', ?_⟩⟩
        have := congrArg (List.take (n * size)) htake'
        rw [List.take_take, Nat.min_eq_left (Nat.mul_le_mul_right _ xo), List.take_append_of_le_length (Nat.le_of_eq hx.symm), List.take_of_length_le (Nat.le_of_eq hx)] at this
        exact this
    · have holds := World.ownsRow.cells (w := w) (base := base) (e := e) (size := size) (n := n) (xs := xs) ⟨hx, .inr ⟨g, cap, cur, rfl, hbg, hgg, hnc, hcm, hcs, htake⟩⟩ (g := g) rfl
      have hr2 := run_append_grow (P := P) w t ty e i z ht hi hz ⟨g, 0, none⟩ n cap xs (by rw [hs]; exact hx) holds ad m c news (by rw [hs]; exact hl) hc xo xo (growslice_fits xo (by rw [hb]; exact hm2))
      rw [hr] at hr2
      cases hr2
      exact (World.ownsRow.drew ⟨hx, .inr ⟨g, cap, cur, rfl, hbg, hgg, hnc, hcm, hcs, htake⟩⟩).alloc _
end
theorem row_from {w : World} {ao : Option Addr} {L : List (Int × Int)} {m pl k : Nat} (h : IsRow .i64 w ao (prI L)) (hL : L.length = m) (hpl : m ≤ pl) (hk : k ≤ m) (hn : ao = none → pl = 0) :
    IsRow .i64 w (if pl = k then ao else ao.map (·.add (k * 2))) (prI (L.drop k)) ∧ ((if pl = k then ao else ao.map (·.add (k * 2))) = none → m - k = 0 ∧ pl - k = 0) := by
 have hlen : (prI (L.drop k)).length = (m - k) * 2 := by rw [prI_length, List.length_drop, hL]
 by_cases hp : pl = k
 · rw [if_pos hp]
   refine ⟨fun i hi => ?_, fun _ => by omega⟩
   rw [hlen] at hi
   omega
 · rw [if_neg hp]
   refine ⟨fun i hi => ?_, fun e => ?_⟩
   · rw [hlen] at hi
     obtain ⟨b, off, ha, hlt, hc⟩ := h (k * 2 + i) (by rw [prI_length, hL]; omega)
     subst ha
     refine ⟨b, off + k * 2, ?_, hlt, fun j hj => ?_⟩
     · simp only [Option.map_some, Addr.add]
       split
       · rename_i hz; rw [hz]; rfl
       · rfl
     rw [hlen] at hj
     have := hc (k * 2 + j) (by rw [prI_length, hL]; omega)
     rw [← Nat.add_assoc] at this
     rw [this]
     congr 2
     rw [show prI (L.drop k) = (prI L).drop (k * 2) from ?_, List.getD_eq_getElem?_getD, List.getD_eq_getElem?_getD, List.getElem?_drop]
     exact prI_drop L k
   · cases ao with
     | none => have := hn rfl; omega
     | some ad => cases e
theorem row_take {w : World} {ao : Option Addr} {L : List (Int × Int)} {k : Nat} (h : IsRow .i64 w ao (prI L)) (hk : k ≤ L.length) : IsRow .i64 w ao (prI (L.take k)) := by
 rw [prI_take]
 exact h.take _ (by rw [prI_length]; omega)
structure FactY (RA : World → World → Prop) where
 holds : Value → World → Prop
 own : Bool
 stB : ∀ v w w', RB w w' → holds v w → holds v w'
 stA : own = false → ∀ v w w', RA w w' → holds v w → holds v w'
def yAny (RA : World → World → Prop) : FactY RA := ⟨fun _ _ => True, false, fun _ _ _ _ _ => trivial, fun _ _ _ _ _ _ => trivial⟩
def yIs (RA : World → World → Prop) (x : Value) : FactY RA := ⟨fun v _ => v = x, false, fun _ _ _ _ h => h, fun _ _ _ _ _ h => h⟩
def yRow (RA : World → World → Prop) (base n : Nat) (xs : List Value) : FactY RA := ⟨fun v w => w.ownsRow base 31 2 v n xs, true, fun _ _ _ h h1 => owns_below h1 h, fun h => by cases h⟩
theorem owns_keep {w w' : World} {base : Nat} {e : TypeId} {s : Nat} {v : Value} {n : Nat} {xs : List Value} (h : w.ownsRow base e s v n xs) (hk : ∀ k, base ≤ k → k < w.heap.size → w'.heap[k]? = w.heap[k]?) : w'.ownsRow base e s v n xs :=
  owns_heap h fun k hb => hk k (h.lt k hb).1 (h.lt k hb).2
def ySl {RA : World → World → Prop} (base : Nat) (hA : ∀ w w', RA w w' → ∀ k, base ≤ k → k < w.heap.size → w'.heap[k]? = w.heap[k]?) (c : SlC) : FactY RA :=
  ⟨(FactR.sl base c).holds, false, fun v w w' h h1 => (FactR.sl base c).stays v w w' h h1,
    fun _ v w w' h ⟨v1, v2, v3, v4, e, h1, h2, h3, h4⟩ => ⟨v1, v2, v3, v4, e, owns_keep h1 (hA w w' h), owns_keep h2 (hA w w' h), owns_keep h3 (hA w w' h), owns_keep h4 (hA w w' h)⟩⟩
def ySl2 {RA : World → World → Prop} (base : Nat) (hA : ∀ w w', RA w w' → ∀ k, base ≤ k → k < w.heap.size → w'.heap[k]? = w.heap[k]?) (c : SlC) (x : Value) : FactY RA :=
  ⟨fun v w => ∃ y, v = .tuple #[y, x] ∧ (ySl base hA c).holds y w, false, fun _ _ _ h ⟨y, e, h1⟩ => ⟨y, e, (ySl base hA c).stB _ _ _ h h1⟩, fun _ _ _ _ h ⟨y, e, h1⟩ => ⟨y, e, (ySl base hA c).stA rfl _ _ _ h h1⟩⟩
def yAt {RA : World → World → Prop} (n : Nat) (ds : List Nat) (fs : List (FactY RA)) (k : Nat) (u : Nat → Value) (w : World) : Prop := k < n → (fs.getD k (yAny RA)).holds (u (ds.getD k 0)) w
def yExt (m : Nat) (RA : World → World → Prop) (i : Nat) (w w' : World) : Prop := (i = m → RA w w') ∧ (i ≠ m → RB w w')
theorem y_stays {RA : World → World → Prop} {n m : Nat} {ds : List Nat} {fs : List (FactY RA)} (h : ∀ k, k < n → k ≠ m → (fs.getD k (yAny RA)).own = false) : ∀ i k u w w', k ≠ i → yExt m RA i w w' → yAt n ds fs k u w → yAt n ds fs k u w' := by
 intro i k u w w' hne hE hG hk
 by_cases e : i = m
 · exact (fs.getD k (yAny RA)).stA (h k hk (fun q => hne (q.trans e.symm))) _ _ _ (hE.1 e) (hG hk)
 · exact (fs.getD k (yAny RA)).stB _ _ _ (hE.2 e) (hG hk)
theorem y_dep {RA : World → World → Prop} {l : List Oper} {n : Nat} {ds : List Nat} {fs : List (FactY RA)} (h : (List.range n).all (fun k => match l[k]? with | some o => o.dst == some (ds.getD k 0) | none => false) = true) :
    ∀ (k : Nat) (u u' : Nat → Value) (w : World), (∀ (j : Nat) (p o : Oper), l[j]? = some p → l[k]? = some o → (j = k ∨ (o.after.any fun e => Region.binds .any e && e.on == j) = true) → valOf u' p = valOf u p) → yAt n ds fs k u w → yAt n ds fs k u' w := by
 intro k u u' w hv hg hk
 have h1 := List.all_eq_true.1 h k (List.mem_range.2 hk)
 cases ho : l[k]? with
 | none => rw [ho] at h1; cases h1
 | some o =>
  rw [ho] at h1
  have h2 : o.dst = some (ds.getD k 0) := by simpa using h1
  have h3 := hv k o o ho ho (.inl rfl)
  have e : u' (ds.getD k 0) = u (ds.getD k 0) := by simpa [valOf, h2] using h3
  rw [e]
  exact hg hk
end
section
open Go.RowKit Go.Shelf
theorem insL_prI (L : List (Int × Int)) (k : Nat) (p : Int × Int) : prI (insL L k p) = prI (L.take k) ++ [p.1, p.2] ++ prI (L.drop k) := by
 rw [insL, prI_append, show p :: L.drop k = [p] ++ L.drop k from rfl, prI_append, List.append_assoc]
 rfl
structure AtZ (a : Option Addr) (m pl : Nat) : Prop where
 off : ∀ x, a = some x → x.off = 0 ∧ x.spot = none
 no : a = none → m = 0 ∧ pl = 0
 le : m ≤ pl
theorem AtZ.cases {a : Option Addr} {m pl : Nat} (h : AtZ a m pl) : (a = none ∧ m = 0 ∧ pl = 0) ∨ ∃ g, a = some ⟨g, 0, none⟩ := by
 cases a with
 | none => exact .inl ⟨rfl, (h.no rfl).1, (h.no rfl).2⟩
 | some x =>
  obtain ⟨h1, h2⟩ := h.off x rfl
  obtain ⟨b, o, s⟩ := x
  dsimp only at h1 h2
  subst h1 h2
  exact .inr ⟨b, rfl⟩
theorem atz_owns {w : World} {B : Nat} {e : TypeId} {s m cap : Nat} {a : Option Addr} {k : IntKind} {xs : List Int} (h : w.ownsRow B e s (.slice a m cap) m (xs.map (Value.int k))) : AtZ a m cap := by
 obtain ⟨a', c', he, -, h1, h2, h3, -⟩ := row_of_owns h
 cases he
 exact ⟨fun x hx => ⟨(h1 x hx).2.2.1, (h1 x hx).2.2.2⟩, h2, h3⟩
end
end Go.Proofs.YtookgoidlnlckaaDoor
