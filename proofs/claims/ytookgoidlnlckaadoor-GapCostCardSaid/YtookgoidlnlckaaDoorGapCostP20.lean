/- Merged: OrdPl, InvEff, SetCs, PutK, QuietX. -/
import Derived.Test.YtookgoidlnlckaaDoorGapCostP19
import Derived.Test.YtookgoidlnlckaaDoorGapCostP9
import Derived.Test.YtookgoidlnlckaaDoorGapCostP1
import Derived.Test.YtookgoidlnlckaaDoorGapCostP2
import Derived.Test.YtookgoidlnlckaaDoorGapCostP8
namespace Go.Proofs.YtookgoidlnlckaaDoor
set_option maxRecDepth 100000
set_option maxHeartbeats 40000000
set_option linter.unusedVariables false
set_option linter.unusedSimpArgs false
section
open Go.RowKit
theorem rise_eq : ∀ {l m : List Nat}, l.Pairwise (· < ·) → m.Pairwise (· < ·) → (∀ x, x ∈ l ↔ x ∈ m) → l = m
  | [], [], _, _, _ => rfl
  | [], y :: m, _, _, h => by have := (h y).2 (List.mem_cons_self ..); cases this
  | x :: l, [], _, _, h => by have := (h x).1 (List.mem_cons_self ..); cases this
  | x :: l, y :: m, hl, hm, h => by
   rw [List.pairwise_cons] at hl hm
   have hxy : x = y := by
    have h1 := (h x).1 (List.mem_cons_self ..)
    have h2 := (h y).2 (List.mem_cons_self ..)
    rw [List.mem_cons] at h1 h2
    rcases h1 with h1 | h1
    · exact h1
    · rcases h2 with h2 | h2
      · exact h2.symm
      · have a1 := hm.1 x h1
        have a2 := hl.1 y h2
        omega
   subst hxy
   congr 1
   refine rise_eq hl.2 hm.2 fun z => ?_
   have := h z
   rw [List.mem_cons, List.mem_cons] at this
   constructor
   · intro hz
     have a1 := hl.1 z hz
     rcases this.1 (.inr hz) with q | q
     · omega
     · exact q
   · intro hz
     have a1 := hm.1 z hz
     rcases this.2 (.inr hz) with q | q
     · omega
     · exact q
theorem prs_app (c : SlC) {a b d : Nat} (h1 : a ≤ b) (h2 : b ≤ d) : prs c a d = prs c a b ++ prs c b d := by
 unfold prs
 rw [plsW_app c.ws h1 h2, List.map_append]
theorem prs_same {c d : SlC} {a b : Nat} (h : ∀ i, a ≤ i → i < b → bitW c.ws i = bitW d.ws i ∧ c.ks.getD i 0 = d.ks.getD i 0 ∧ c.vs.getD i 0 = d.vs.getD i 0) : prs c a b = prs d a b := by
 have e : plsW c.ws a b = plsW d.ws a b := by
  unfold plsW
  apply List.filter_congr
  intro i hi
  have := List.mem_range'_1.1 hi
  exact (h i this.1 xo).1
 unfold prs
 rw [e]
 apply List.map_congr_left
 intro i hi
 have := List.mem_range'_1.1 (List.mem_filter.1 hi).1
 have q := h i this.1 xo
 rw [q.2.1, q.2.2]
theorem tks_out {c : SlC} {lo i : Nat} : ∀ j, (i < lo ∨ lo + j ≤ i) → (tks c lo j).ks.getD i 0 = c.ks.getD i 0 ∧ (tks c lo j).vs.getD i 0 = c.vs.getD i 0
  | 0, _ => ⟨rfl, rfl⟩
  | j + 1, h => by
   obtain ⟨h1, h2⟩ := tks_out (c := c) (lo := lo) (i := i) j xo
   rw [tks]
   simp only [tkC]
   rw [getD_set_at, if_neg xo, getD_set_at, if_neg xo]
   exact ⟨h1, h2⟩
theorem ly_at {c : SlC} {i : Nat} (hk : i < c.ks.length) (hv : i < c.vs.length) (x y : Int) : (lyC c i x y).ks.getD i 0 = x ∧ (lyC c i x y).vs.getD i 0 = y := by
 simp only [lyC, tkC]
 rw [getD_set_at, if_pos ⟨rfl, by simpa using hk⟩, getD_set_at, if_pos ⟨rfl, by simpa using hv⟩]
 exact ⟨rfl, rfl⟩
theorem ly_out {c : SlC} {i j : Nat} (h : i ≠ j) (x y : Int) : (lyC c i x y).ks.getD j 0 = c.ks.getD j 0 ∧ (lyC c i x y).vs.getD j 0 = c.vs.getD j 0 := by
 simp only [lyC, tkC]
 rw [getD_set_at, if_neg (fun q => h q.1), getD_set_at, if_neg (fun q => h q.1), getD_set_at, if_neg (fun q => h q.1), getD_set_at, if_neg (fun q => h q.1)]
 exact ⟨rfl, rfl⟩
theorem lys_out {c : SlC} {ps : List Nat} {L : List (Int × Int)} {i : Nat} : ∀ k, (∀ j, j < k → ps.getD j 0 ≠ i) → (lys c ps L k).ks.getD i 0 = c.ks.getD i 0 ∧ (lys c ps L k).vs.getD i 0 = c.vs.getD i 0
  | 0, _ => ⟨rfl, rfl⟩
  | k + 1, h => by
   obtain ⟨h1, h2⟩ := lys_out (c := c) (ps := ps) (L := L) (i := i) k (fun j hj => h j xo)
   obtain ⟨h3, h4⟩ := ly_out (c := lys c ps L k) (h k xo) (L.getD k (0, 0)).1 (L.getD k (0, 0)).2
   rw [lys]
   exact ⟨h3.trans h1, h4.trans h2⟩
theorem lys_at {c : SlC} {S lw n lc : Nat} (h : SlGd c S lw n lc) {ps : List Nat} (hp : ∀ k, ps.getD k 0 < n) (L : List (Int × Int)) {i : Nat} : ∀ k, i < k → (∀ j, i < j → j < k → ps.getD j 0 ≠ ps.getD i 0) → (lys c ps L k).ks.getD (ps.getD i 0) 0 = (L.getD i (0, 0)).1 ∧ (lys c ps L k).vs.getD (ps.getD i 0) 0 = (L.getD i (0, 0)).2
  | 0, hi, _ => by omega
  | k + 1, hi, hd => by
   have g := SlGd.lys h hp L k
   rw [lys]
   rcases Nat.lt_or_ge i k with q | q
   · obtain ⟨h1, h2⟩ := lys_at h hp L k q (fun j h1 h2 => hd j h1 xo)
     obtain ⟨h3, h4⟩ := ly_out (c := lys c ps L k) (hd k q xo) (L.getD k (0, 0)).1 (L.getD k (0, 0)).2
     exact ⟨h3.trans h1, h4.trans h2⟩
   · obtain rfl : i = k := xo
     exact ly_at (by rw [g.elk]; exact hp i) (by rw [g.elv]; exact hp i) _ _
theorem sp_pls {c : SlC} {S lw n lc lo hi : Nat} (h : SlGd c S lw n lc) (hlo : lo ≤ hi) (hh : hi ≤ n) {L : List (Int × Int)} (hL : L.length ≤ hi - lo) : plsW (spC c lo hi L).ws lo hi = plR L.length lo hi := by
 have hn := h.n1
 apply rise_eq
 · unfold plsW
   exact List.Pairwise.filter _ List.pairwise_lt_range'
 · unfold plR
   rw [List.pairwise_map]
   refine List.Pairwise.imp_of_mem ?_ List.pairwise_lt_range
   intro x y hx hy hxy
   have := List.mem_range.1 hy
   have := plF_mono (lo := lo) xo hL x (y - x - 1)
   rwa [show x + (y - x - 1 + 1) = y by omega] at this
 · intro x
   unfold plsW
   rw [List.mem_filter, List.mem_range'_1, spC, lys_bit (h.tks (hi - lo) xo) (fun k => plR_ltn hL hh xo k) L x, tks_bit h x (hi - lo) xo]
   constructor
   · rintro ⟨h1, h2⟩
     have : (decide (lo ≤ x) && decide (x < lo + (hi - lo))) = true := by rw [Bool.and_eq_true, decide_eq_true_eq, decide_eq_true_eq]; omega
     rw [this] at h2
     rcases h2 with h2 | ⟨j, hj, h2⟩
     · simp at h2
     · rw [plR_get hj] at h2
       rw [← h2]
       exact List.mem_map.2 ⟨j, List.mem_range.2 hj, rfl⟩
   · intro hx
     obtain ⟨j, hj, rfl⟩ := List.mem_map.1 hx
     have hj := List.mem_range.1 hj
     have h1 := plF_lt (lo := lo) hj hL
     have h2 : lo ≤ plF L.length lo hi j := Nat.le_add_right _ _
     exact ⟨by omega, .inr ⟨j, hj, plR_get hj⟩⟩
theorem sp_in {c : SlC} {S lw n lc lo hi : Nat} (h : SlGd c S lw n lc) (hlo : lo ≤ hi) (hh : hi ≤ n) {L : List (Int × Int)} (hL : L.length ≤ hi - lo) : prs (spC c lo hi L) lo hi = L := by
 have hn := h.n1
 unfold prs
 rw [sp_pls h hlo hh hL, plR, List.map_map]
 apply List.ext_getElem
 · simp
 · intro i h1 h2
   rw [List.getElem_map, List.getElem_range]
   have hi' : i < L.length := h2
   have := lys_at (h.tks (lo := lo) (hi - lo) xo) (fun k => plR_ltn hL hh xo k) L (i := i) L.length hi' (fun j q1 q2 => by
    rw [plR_get q2, plR_get hi']
    have := plF_mono (lo := lo) xo hL i (j - i - 1)
    rw [show i + (j - i - 1 + 1) = j by omega] at this
    omega)
   rw [plR_get hi'] at this
   simp only [Function.comp]
   unfold spC
   rw [this.1, this.2, List.getD_eq_getElem?_getD, List.getElem?_eq_getElem hi']
   rfl
theorem sp_out {c : SlC} {S lw n lc lo hi : Nat} (h : SlGd c S lw n lc) (hlo : lo ≤ hi) (hh : hi ≤ n) {L : List (Int × Int)} (hL : L.length ≤ hi - lo) {x y : Nat} (hd : y ≤ lo ∨ hi ≤ x) : prs (spC c lo hi L) x y = prs c x y := by
 have hn := h.n1
 refine prs_same fun i h1 h2 => ?_
 have hne : ∀ j, j < L.length → (plR L.length lo hi).getD j 0 ≠ i := by
  intro j hj
  rw [plR_get hj]
  have h3 := plF_lt (lo := lo) hj hL
  have h4 : lo ≤ plF L.length lo hi j := Nat.le_add_right _ _
  omega
 have ho := lys_out (c := tks c lo (hi - lo)) (ps := plR L.length lo hi) (L := L) (i := i) L.length hne
 have ht := tks_out (c := c) (lo := lo) (i := i) (hi - lo) xo
 refine ⟨?_, ho.1.trans ht.1, ho.2.trans ht.2⟩
 rw [Bool.eq_iff_iff, spC, lys_bit (h.tks (hi - lo) xo) (fun k => plR_ltn hL hh xo k) L i, tks_bit h i (hi - lo) xo]
 have : (decide (lo ≤ i) && decide (i < lo + (hi - lo))) = false := by
  rw [Bool.and_eq_false_iff, decide_eq_false_iff_not, decide_eq_false_iff_not]; omega
 rw [this]
 constructor
 · rintro (q | ⟨j, hj, q⟩)
   · simpa using q
   · exact absurd q (hne j hj)
 · intro q
   exact .inl (by simpa using q)
theorem prs_sp {c : SlC} {S lw n lc lo hi : Nat} (h : SlGd c S lw n lc) (hlo : lo ≤ hi) (hh : hi ≤ n) {L : List (Int × Int)} (hL : L.length ≤ hi - lo) : prs (spC c lo hi L) 0 n = prs c 0 lo ++ L ++ prs c hi n := by
 rw [prs_app _ (Nat.zero_le lo) (by omega : lo ≤ n), prs_app _ hlo hh, sp_in h hlo hh hL, sp_out h hlo hh hL (.inl (Nat.le_refl _)), sp_out h hlo hh hL (.inr (Nat.le_refl _)), List.append_assoc]
theorem insL_mid {A B C : List (Int × Int)} {k : Nat} (h1 : A.length ≤ k) (h2 : k - A.length ≤ B.length) (p : Int × Int) : insL (A ++ B ++ C) k p = A ++ insL B (k - A.length) p ++ C := by
 unfold insL
 rw [List.append_assoc, List.take_append, List.drop_append, List.take_of_length_le h1, List.drop_eq_nil_of_le h1, List.nil_append, List.take_append, List.drop_append, show k - A.length - B.length = 0 by omega]
 simp
theorem prs_tk {c : SlC} {S lw n lc : Nat} (h : SlGd c S lw n lc) {i : Nat} (hi : i < n) (x y : Nat) (hd : y ≤ i ∨ i + 1 ≤ x) : prs (tkC c i) x y = prs c x y := by
 refine prs_same fun j h1 h2 => ?_
 have hji : i ≠ j := xo
 refine ⟨?_, ?_, ?_⟩
 · rw [tk_bit h hi, decide_eq_true (show j ≠ i by omega), Bool.and_true]
 · simp only [tkC]; rw [getD_set_at, if_neg (fun q => hji q.1)]
 · simp only [tkC]; rw [getD_set_at, if_neg (fun q => hji q.1)]
theorem prs_one (c : SlC) (i : Nat) : prs c i (i + 1) = if bitW c.ws i = true then [(c.ks.getD i 0, c.vs.getD i 0)] else [] := by
 unfold prs plsW
 rw [show i + 1 - i = 1 by omega, List.range'_one, List.filter_cons]
 split <;> rfl
theorem prs_tk_all {c : SlC} {S lw n lc : Nat} (h : SlGd c S lw n lc) {i : Nat} (hi : i < n) (hb : bitW c.ws i = true) : prs (tkC c i) 0 n = prs c 0 i ++ prs c (i + 1) n ∧ prs c 0 n = prs c 0 i ++ (c.ks.getD i 0, c.vs.getD i 0) :: prs c (i + 1) n := by
 constructor
 · rw [prs_app _ (Nat.zero_le i) (by omega : i ≤ n), prs_app _ (Nat.le_succ i) hi, prs_tk h hi _ _ (.inl (Nat.le_refl _)), prs_tk h hi _ _ (.inr (Nat.le_refl _)), prs_one, tk_bit h hi]
   simp
 · rw [prs_app _ (Nat.zero_le i) (by omega : i ≤ n), prs_app _ (Nat.le_succ i) hi, prs_one, if_pos hb]
   rfl
theorem wrap64_add (x : Int) (k : Nat) : IntKind.u64.wrap (IntKind.u64.wrap (x + (k : Int)) + 1) = IntKind.u64.wrap (x + ((k + 1 : Nat) : Int)) := by
 have h := fun y => (show IntKind.u64.wrap y = y % 18446744073709551616 from rfl)
 rw [h, h, h]
 push_cast
 omega
theorem tks_laid (c : SlC) (lo : Nat) : ∀ j, (tks c lo j).laid = c.laid
  | 0 => rfl
  | j + 1 => tks_laid c lo j
theorem lys_laid (c : SlC) (ps : List Nat) (L : List (Int × Int)) (h : IntKind.u64.wrap c.laid = c.laid) : ∀ k, (lys c ps L k).laid = IntKind.u64.wrap (c.laid + (k : Int))
  | 0 => by rw [show c.laid + ((0 : Nat) : Int) = c.laid by omega, h]; rfl
  | k + 1 => by
   rw [lys]
   show IntKind.u64.wrap ((lys c ps L k).laid + 1) = _
   rw [lys_laid c ps L h k, wrap64_add]
theorem sp_laid (c : SlC) (lo hi : Nat) (L : List (Int × Int)) (h : IntKind.u64.wrap c.laid = c.laid) : (spC c lo hi L).laid = IntKind.u64.wrap (c.laid + (L.length : Int)) := by
 unfold spC
 have e := tks_laid c lo (hi - lo)
 rw [lys_laid _ _ _ (by rw [e]; exact h), e]
end
section
open Go.RowKit
section
variable {P : Program} {ops : Array Oper} {Q : Exit → Act → World → Prop}
def OpsOkE (P : Program) (ops : Array Oper) (Q : Exit → Act → World → Prop) (D : List Nat) (t0 : Array Value) (n : Nat) (ds : List Deferred) (J : World → Prop) (Ext : Nat → World → World → Prop) (G : Nat → (Nat → Value) → World → Prop) : Nat → List Oper → Prop
  | _, [] => True
  | k, o :: rest => OpOkR P ops Q D t0 n ds J (Ext k) G k o ∧ OpsOkE P ops Q D t0 n ds J Ext G (k + 1) rest
theorem OpsOkE.at {D : List Nat} {t0 : Array Value} {n : Nat} {ds : List Deferred} {J : World → Prop} {Ext : Nat → World → World → Prop} {G : Nat → (Nat → Value) → World → Prop} : ∀ {l : List Oper} {k : Nat}, OpsOkE P ops Q D t0 n ds J Ext G k l → ∀ {i : Nat} {o : Oper}, l[i]? = some o → OpOkR P ops Q D t0 n ds J (Ext (k + i)) G (k + i) o
  | [], _, _, i, o, ho => by simp at ho
  | x :: rest, k, h, 0, o, ho => by simp at ho; subst ho; exact h.1
  | x :: rest, k, h, i + 1, o, ho => by
   have := OpsOkE.at h.2 (i := i) (o := o) (by simpa using ho)
   rwa [Nat.add_assoc, Nat.add_comm 1 i] at this
theorem wp_region_eff {id : Nat} {l : List Oper} {t0 : Array Value} {ds : List Deferred} {w0 : World} {N : Nat} (n : Nat) (hm : P.follows .mixedOrders = true) (hn : t0.size = N) (hB : regionL (l.take n) N = true) (hT : tailL l n = true) (hle : n ≤ l.length)
    (J : World → Prop) (Ext : Nat → World → World → Prop) (G : Nat → (Nat → Value) → World → Prop) (hst : ∀ i k x w w', k ≠ i → Ext i w w' → G k x w → G k x w') (hdep : ∀ (k : Nat) (u u' : Nat → Value) (w : World), (∀ (j : Nat) (p o : Oper), l[j]? = some p → l[k]? = some o → (j = k ∨ (o.after.any fun e => Region.binds .any e && e.on == j) = true) → valOf u' p = valOf u p) → G k u w → G k u' w) (hJ : J w0.drew)
    (hop : OpsOkE P l.toArray Q (dstsOf (l.take n)) t0 N ds J Ext G 0 (l.take n))
    (hdone : ∀ (u : Nat → Value) (w : World), J w → (∀ (k : Nat) (o : Oper), (l.take n)[k]? = some o → G k u w) → wpList P l.toArray Q (l.drop n) { tmps := mixFrame (dstsOf (l.take n)) u t0, defers := ds } w) :
    (Code.region id l.toArray true).wp P Q { tmps := t0, defers := ds } w0 := by
 subst hn
 simp only [regionL, Bool.and_eq_true, List.all_eq_true, decide_eq_true_eq] at hB
 obtain ⟨⟨⟨hnd, hlt⟩, hgd⟩, hac⟩ := hB
 simp only [tailL, List.all_eq_true, List.mem_range, Bool.or_eq_true, decide_eq_true_eq] at hT
 have htk : ∀ {k : Nat} {o : Oper}, (l.take n)[k]? = some o ↔ k < n ∧ l[k]? = some o := by
  intro k o
  rw [List.getElem?_take]
  by_cases h : k < n
  · rw [if_pos h]; exact ⟨fun h1 => ⟨h, h1⟩, fun h1 => h1.2⟩
  · rw [if_neg h]; exact ⟨fun h1 => (by cases h1), fun h1 => absurd h1.1 h⟩
 refine wp_region_any hm (wpAny_invL (ops := l.toArray)
   (fun L a w => ((∀ i, n ≤ i → L.getD i false = false) ∧ ∃ u : Nat → Value, a = { tmps := mixFrame (dstsOf (l.take n)) u t0, defers := ds } ∧ J w ∧ ∀ (k : Nat) (o : Oper), (l.take n)[k]? = some o → L.getD k false = true → G k u w) ∨
     (∃ m, n ≤ m ∧ m ≤ l.length ∧ (∀ i, i < m → L.getD i false = true) ∧ (∀ i, m ≤ i → L.getD i false = false) ∧ wpList P l.toArray Q (l.drop m) a w))
   ?_ ?_ ?_ _ _ _ _ (by simp) (leftOf_le _ _) (fun j p hp hj => by simp [Array.getD] at hj) (.inl ⟨fun i _ => by rw [List.size_toArray]; simp [Array.getD], fun t => t0.getD t undef, by rw [mixFrame_start], hJ, fun k o _ h => ?_⟩))
 · intro i o ho e he hb
   have hi : i < l.length := (Array.getElem?_eq_some_iff.1 ho).1
   rw [List.getElem?_toArray] at ho
   by_cases hin : i < n
   · have h1 : (l.take n)[i]? = some o := htk.2 ⟨hin, ho⟩
     have := hac i (List.mem_range.2 (List.getElem?_eq_some_iff.1 h1).1)
     rw [h1] at this
     have h2 := Array.all_eq_true_iff_forall_mem.1 this e he
     rw [hb] at h2
     simpa using h2
   · have h1 := hT i hi
     rcases h1 with h1 | h1
     · omega
     · rw [ho] at h1
       simp only [Bool.and_eq_true] at h1
       have h2 := Array.all_eq_true_iff_forall_mem.1 h1.2 e he
       rw [hb] at h2
       simpa using h2
 · rintro L a w i o hs ho hi hall hcl hI
   rw [List.getElem?_toArray] at ho
   have hil : i < l.length := (List.getElem?_eq_some_iff.1 ho).1
   have hilt : i < L.size := by rw [hs]; simpa using hil
   have ahead : n ≤ i → ∀ j, j < i → L.getD j false = true := by
    intro hin j hj
    have h1 := hT i hil
    rcases h1 with h1 | h1
    · omega
    · simp only [Bool.and_eq_true, decide_eq_true_eq] at h1
      have hbit : ((masksOf l []).getD i 0).testBit j = true := by
       have h2 := congrArg (fun m => Nat.testBit m j) h1.1
       simp only [Nat.testBit_mod_two_pow, Nat.testBit_two_pow_sub_one, decide_eq_true hj, Bool.true_and] at h2
       exact h2
      exact masks_sound hcl l [] 0 rfl (fun j => by rw [Nat.zero_add]) (fun i hi => by omega) i o ho hall j hbit
   have later : ∀ (m : Nat), n ≤ m → m = i → (∀ j, m ≤ j → L.getD j false = false) → (∀ j, j < m → L.getD j false = true) → wpList P l.toArray Q (l.drop m) a w →
       wpOp P l.toArray Q i (fun a' w' => ((∀ k, n ≤ k → (L.setIfInBounds i true).getD k false = false) ∧ ∃ u : Nat → Value, a' = { tmps := mixFrame (dstsOf (l.take n)) u t0, defers := ds } ∧ J w' ∧ ∀ (k : Nat) (o : Oper), (l.take n)[k]? = some o → (L.setIfInBounds i true).getD k false = true → G k u w') ∨
         (∃ m, n ≤ m ∧ m ≤ l.length ∧ (∀ k, k < m → (L.setIfInBounds i true).getD k false = true) ∧ (∀ k, m ≤ k → (L.setIfInBounds i true).getD k false = false) ∧ wpList P l.toArray Q (l.drop m) a' w')) a w := by
    rintro m hnm rfl hno hyes hw
    refine wpOp_mono (fun a' w' h => .inr ⟨m + 1, by omega, by omega, fun k hk => ?_, fun k hk => ?_, h⟩) (wpOp_of_list ho hw)
    · by_cases e : k = m
      · subst e; exact set_same hilt
      · rw [set_else e]; exact hyes k xo
    · rw [set_else xo]; exact hno k xo
   rcases hI with ⟨hno, u, rfl, hJw, hG⟩ | ⟨m, hnm, hml, hyes, hno, hw⟩
   · by_cases hin : i < n
     · have htki : (l.take n)[i]? = some o := htk.2 ⟨hin, ho⟩
       have hok := hop.at htki
       rw [Nat.zero_add] at hok
       have hg : o.guard = none := by
        have := hgd o (List.mem_of_getElem? htki)
        cases hx : o.guard with
        | none => rfl
        | some x => rw [hx] at this; cases this
       unfold wpOp
       simp only [List.getElem?_toArray, ho]
       rw [if_pos (by simp [Region.wanted, hg])]
       left
       refine hok u _ w (fun t ht => mixFrame_get ht) hJw (fun j p hj hp => ?_) _ (fun v w' hv hJ' hG' hE => .inl ⟨fun k hk => by rw [set_else xo]; exact hno k hk, ?_⟩)
       · rw [List.getElem?_toArray] at hp
         obtain ⟨e, he, hbe⟩ := Array.any_eq_true.1 hj
         simp only [Bool.and_eq_true, beq_iff_eq] at hbe
         have hl := hall _ (Array.getElem_mem he) hbe.1
         rw [hbe.2] at hl
         have hjn : j < n := by
          by_cases h : j < n
          · exact h
          · rw [hno j xo] at hl; cases hl
         exact hG j p (htk.2 ⟨hjn, hp⟩) hl
       · cases hd : o.dst with
         | none =>
          refine ⟨u, rfl, hJ', fun k p hp hk => ?_⟩
          by_cases e : k = i
          · subst e
            have := hG'
            unfold updR at this
            rw [hd] at this
            exact this
          · rw [set_else e] at hk
            exact hst _ _ _ _ _ e hE (hG k p hp hk)
         | some d =>
          have hdm : (dstsOf (l.take n)).contains d = true := by
           simp only [List.contains_iff_mem]
           exact List.mem_filterMap.2 ⟨o, List.mem_of_getElem? htki, hd⟩
          refine ⟨fun t => if t = d then v else u t, by simp only [Act.put, mixFrame_put hdm], hJ', fun k p hp hk => ?_⟩
          by_cases e : k = i
          · subst e
            have := hG'
            unfold updR at this
            rw [hd] at this
            exact this
          · rw [set_else e] at hk
            refine hst _ _ _ _ _ e hE (hdep k u _ w (fun j p' o' hj ho' hor => ?_) (hG k p hp hk))
            have hjl : L.getD j false = true := by
             rcases hor with rfl | hor
             · exact hk
             · obtain ⟨e', he', hbe⟩ := Array.any_eq_true.1 hor
               simp only [Bool.and_eq_true, beq_iff_eq] at hbe
               have := hcl k o' (by rw [List.getElem?_toArray]; exact ho') hk _ (Array.getElem_mem he') hbe.1
               rw [hbe.2] at this
               exact this
            have hji : j ≠ i := fun h => by rw [h, hi] at hjl; cases hjl
            have hjn : j < n := by
             by_cases h : j < n
             · exact h
             · rw [hno j xo] at hjl; cases hjl
            have hne := nodup_slot hnd htki (htk.2 ⟨hjn, hj⟩) (fun h => hji h.symm) hd
            unfold valOf
            cases hpd : p'.dst with
            | none => rfl
            | some d' => exact if_neg (fun h => hne (by rw [hpd, h]))
     · have hin' : n = i := by
         by_cases e : n = i
         · exact e
         · have := ahead xo n xo
           rw [hno n (Nat.le_refl _)] at this
           cases this
       refine later n (Nat.le_refl _) hin' hno (fun j hj => ahead xo j xo) (hdone u w hJw fun k p hp => hG k p hp (ahead xo k ?_))
       have := (htk.1 hp).1
       omega
   · have him : m ≤ i := by
       by_cases h : m ≤ i
       · exact h
       · have := hyes i xo; rw [hi] at this; cases this
     have hmi : m = i := by
      by_cases e : m = i
      · exact e
      · have := ahead xo m xo
        rw [hno m (Nat.le_refl _)] at this
        cases this
     exact later m hnm hmi hno hyes hw
 · rintro L a w hs hall hI
   rw [List.size_toArray] at hall
   rcases hI with ⟨hno, u, rfl, hJw, hG⟩ | ⟨m, hnm, hml, hyes, hno, hw⟩
   · have hnl : n = l.length := by
       by_cases e : n = l.length
       · exact e
       · have := hall n xo; rw [hno n (Nat.le_refl _)] at this; cases this
     have hq := hdone u w hJw fun k p hp => hG k p hp (hall k (by have := (htk.1 hp).1; omega))
     have hd : l.drop n = [] := by rw [hnl]; exact List.drop_length
     rw [hd] at hq
     exact hq
   · have hml' : m = l.length := by
       by_cases e : m = l.length
       · exact e
       · have := hall m xo; rw [hno m (Nat.le_refl _)] at this; cases this
     rw [hml', List.drop_length] at hw
     exact hw
 · rw [List.size_toArray] at h
   simp [Array.getD] at h
end
end
section
open Go.RowKit
def setCs : World → Nat → Nat → List Value → World
  | W, _, _, [] => W
  | W, b, i, v :: l => setCs (W.setCell ⟨b, i, none⟩ v) b (i + 1) l
theorem setCs_other {b : Nat} {p : Addr} (hp : p.block ≠ b) : ∀ (l : List Value) (W : World) (i : Nat), (setCs W b i l).cell? p = W.cell? p
  | [], W, i => rfl
  | v :: l, W, i => by
   rw [setCs, setCs_other hp l]
   exact World.cell?_setCell_other _ _ _ _ (by intro e; exact hp (by rw [← e]))
theorem setCs_low {b k : Nat} : ∀ (l : List Value) (W : World) (i : Nat), k < i → (setCs W b i l).cell? ⟨b, k, none⟩ = W.cell? ⟨b, k, none⟩
  | [], W, i, _ => rfl
  | v :: l, W, i, h => by
   rw [setCs, setCs_low l _ _ xo]
   exact World.cell?_setCell_other _ _ _ _ (by intro e; simp at e <;> omega)
theorem setCs_at {b : Nat} : ∀ (l : List Value) (W : World) (i : Nat), (∀ j, j < l.length → ∃ u, W.cell? ⟨b, i + j, none⟩ = some u) → ∀ j v, l[j]? = some v → (setCs W b i l).cell? ⟨b, i + j, none⟩ = some v
  | [], W, i, _, j, v, h => by simp at h
  | x :: l, W, i, hc, 0, v, h => by
   obtain ⟨u, hu⟩ := hc 0 (by simp)
   rw [setCs, Nat.add_zero, setCs_low l _ _ xo]
   simp at h
   rw [← h]
   exact World.cell?_setCell_same _ _ _ hu
  | x :: l, W, i, hc, j + 1, v, h => by
   rw [setCs, show i + (j + 1) = (i + 1) + j by omega]
   refine setCs_at l _ _ (fun k hk => ?_) j v (by simpa using h)
   obtain ⟨u, hu⟩ := hc (k + 1) (by simpa using hk)
   refine ⟨u, ?_⟩
   rw [World.cell?_setCell_other _ _ _ _ (by intro e; simp at e <;> omega)]
   rw [show i + 1 + k = i + (k + 1) by omega]
   exact hu
theorem setCs_all {b : Nat} {l : List Value} {W : World} (hc : ∀ j, j < l.length → ∃ u, W.cell? ⟨b, j, none⟩ = some u) : ∀ j v, l[j]? = some v → (setCs W b 0 l).cell? ⟨b, j, none⟩ = some v := fun j v h => by
 have := setCs_at (b := b) l W 0 (fun j hj => by rw [Nat.zero_add]; exact hc j hj) j v h
 rwa [Nat.zero_add] at this
theorem setCs_below {B b : Nat} {w : World} (hb : B ≤ b) : ∀ (l : List Value) (W : World) (i : Nat), Below B w W → Below B w (setCs W b i l)
  | [], W, i, h => h
  | v :: l, W, i, h => setCs_below hb l _ _ (h.setCell (by exact hb) v)
theorem setCs_heap {b k : Nat} (hk : k ≠ b) : ∀ (l : List Value) (W : World) (i : Nat), (setCs W b i l).heap[k]? = W.heap[k]?
  | [], W, i => rfl
  | v :: l, W, i => by rw [setCs, setCs_heap hk l]; exact heap_setCell_ne _ _ _ hk
theorem setCs_owns {B b : Nat} {e : TypeId} {s n : Nat} {v : Value} {xs : List Value} (hb : b < B) {W : World} {i : Nat} (l : List Value) (h : W.ownsRow B e s v n xs) : (setCs W b i l).ownsRow B e s v n xs :=
  owns_heap h fun k hk => setCs_heap (by have := (h.lt k hk).1; omega) l W i
theorem six_some {W : World} {b : Nat} {v0 v1 v2 v3 v4 v5 : Value} (h : W.cell? ⟨b, 0, none⟩ = some v0 ∧ W.cell? ⟨b, 1, none⟩ = some v1 ∧ W.cell? ⟨b, 2, none⟩ = some v2 ∧ W.cell? ⟨b, 3, none⟩ = some v3 ∧ W.cell? ⟨b, 4, none⟩ = some v4 ∧ W.cell? ⟨b, 5, none⟩ = some v5) : ∀ j, j < 6 → ∃ u, W.cell? ⟨b, j, none⟩ = some u := by
 obtain ⟨h0, h1, h2, h3, h4, h5⟩ := h
 intro j hj
 match j, hj with
 | 0, _ => exact ⟨_, h0⟩
 | 1, _ => exact ⟨_, h1⟩
 | 2, _ => exact ⟨_, h2⟩
 | 3, _ => exact ⟨_, h3⟩
 | 4, _ => exact ⟨_, h4⟩
 | 5, _ => exact ⟨_, h5⟩
end
section
open Go.RowKit
theorem prI_take (L : List (Int × Int)) : ∀ k, prI (L.take k) = (prI L).take (k * 2) := by
 induction L with
 | nil => intro k; simp [prI]
 | cons x L ih =>
  intro k
  cases k with
  | zero => simp [prI]
  | succ k =>
   have := ih k
   rw [List.take_succ_cons, show (k + 1) * 2 = k * 2 + 1 + 1 by omega]
   simp only [prI, List.flatMap_cons, List.cons_append, List.nil_append, List.take_succ_cons] at this ⊢
   rw [this]
theorem prI_drop (L : List (Int × Int)) : ∀ k, prI (L.drop k) = (prI L).drop (k * 2) := by
 induction L with
 | nil => intro k; simp [prI]
 | cons x L ih =>
  intro k
  cases k with
  | zero => simp [prI]
  | succ k =>
   have := ih k
   rw [List.drop_succ_cons, show (k + 1) * 2 = k * 2 + 1 + 1 by omega]
   simp only [prI, List.flatMap_cons, List.cons_append, List.nil_append, List.drop_succ_cons] at this ⊢
   rw [this]
section
variable {P : Program}
theorem wp_scope_fwd {c B : Code} (l : Nat) {Q : Exit → Act → World → Prop} {a : Act} {w : World} (hf : findLabel c l = some (.seq .skip B))
    (h : c.wp P (Exit.jump l (fun a w => B.wp P (Exit.jump l (fun _ _ => False) Q) a w) Q) a w) : (Code.scope c).wp P Q a w := by
 refine wp_scope_loop l (fun _ a w => B.wp P (Exit.jump l (fun _ _ => False) Q) a w) hf ?_ ?_
 · intro n a w h H _
   refine Code.wp_mono ?_ h
   intro e a' w' q
   cases e <;> simp only [Exit.jump] at q ⊢ <;> first | exact q | skip
   exact q.2.elim
 · intro H hJ _
   refine Code.wp_mono ?_ h
   intro e a' w' q
   cases e <;> simp only [Exit.jump] at q ⊢ <;> first | exact q | skip
   exact ⟨q.1, hJ 0 _ _ q.2⟩
theorem exec_slice_from {o : Oper} {a : Act} {w : World} (t e : TypeId) (x y : Operand) (size : Nat) (ao : Option Addr) (m pl k : Nat) (ho : o.op = .slice t x (some y) none none)
    (ht : P.underlying t = some (.slice e)) (hs : (P.info? e).map (·.size) = some size) (hx : a.eval x = .slice ao m pl) (hy : a.eval y = .int .i64 k) (hk : k ≤ m) (hm : m ≤ pl) :
    (execOp a.eval o).run P w = .ok (.value (.slice (if pl = k then ao else ao.map (·.add (k * size))) (m - k) (pl - k))) w := by
 obtain ⟨i, hi, rfl⟩ := Option.map_eq_some_iff.1 hs
 unfold execOp
 simp [ho, hx, hy, Instr.sliceAt, Instr.slice, Instr.sliceBounds, Instr.sliceBound, asIntOf, run_underlying ht, sizeOf, typeInfo, hi, hk, hm]
theorem exec_slice_full {o : Oper} {a : Act} {w : World} (t e : TypeId) (x y z : Operand) (size : Nat) (ao : Option Addr) (m pl k : Nat) (ho : o.op = .slice t x none (some y) (some z))
    (ht : P.underlying t = some (.slice e)) (hs : (P.info? e).map (·.size) = some size) (hx : a.eval x = .slice ao m pl) (hy : a.eval y = .int .i64 k) (hz : a.eval z = .int .i64 k) (hk : k ≤ pl) :
    (execOp a.eval o).run P w = .ok (.value (.slice ao k k)) w := by
 obtain ⟨i, hi, rfl⟩ := Option.map_eq_some_iff.1 hs
 have e : ∀ ad : Addr, ad.add 0 = ad := fun ad => by cases ad; rfl
 unfold execOp
 simp [ho, hx, hy, hz, Instr.sliceAt, Instr.slice, Instr.sliceBounds, Instr.sliceBound, asIntOf, run_underlying ht, sizeOf, typeInfo, hi, hk, e]
theorem exec_slice_from2 {o : Oper} {a : Act} {w : World} (t e : TypeId) (x y : Operand) (size : Nat) (ao : Option Addr) (m pl k : Nat) (da : Option Addr) (hda : (if pl = k then ao else ao.map (·.add (k * size))) = da) (ho : o.op = .slice t x (some y) none none)
    (ht : P.underlying t = some (.slice e)) (hs : (P.info? e).map (·.size) = some size) (hx : a.eval x = .slice ao m pl) (hy : a.eval y = .int .i64 k) (hk : k ≤ m) (hm : m ≤ pl) :
    (execOp a.eval o).run P w = .ok (.value (.slice da (m - k) (pl - k))) w := by
 rw [← hda]; exact exec_slice_from t e x y size ao m pl k ho ht hs hx hy hk hm
theorem wp_value {o : Oper} {a : Act} {w w' : World} {v : Value} {K : Act → World → Prop} {Q : Exit → Act → World → Prop} (h : (execOp a.eval o).run P w = .ok (.value v) w') (hk : K (a.put o.dst v) w') : Oper.wp P o a w K Q := by
 unfold Oper.wp
 simp only [h]
 exact hk
theorem wp_slice_from {w : World} {o : Oper} {a : Act} {K : Act → World → Prop} {Q : Exit → Act → World → Prop} (t e : TypeId) (x y : Operand) (size : Nat) (ao : Option Addr) (m pl k : Nat) (da : Option Addr) (hda : (if pl = k then ao else ao.map (·.add (k * size))) = da) (ho : o.op = .slice t x (some y) none none) (ht : P.underlying t = some (.slice e)) (hs : (P.info? e).map (·.size) = some size) (hx : a.eval x = .slice ao m pl) (hy : a.eval y = .int .i64 k) (hk : k ≤ m) (hm : m ≤ pl)
    (h : K (a.put o.dst (.slice da (m - k) (pl - k))) w) : Oper.wp P o a w K Q :=
  wp_value (exec_slice_from2 (o := o) (a := a) (w := w) t e x y size ao m pl k da hda ho ht hs hx hy hk hm) h
theorem wp_slice_full {w : World} {o : Oper} {a : Act} {K : Act → World → Prop} {Q : Exit → Act → World → Prop} (t e : TypeId) (x y z : Operand) (size : Nat) (ao : Option Addr) (m pl k : Nat) (ho : o.op = .slice t x none (some y) (some z)) (ht : P.underlying t = some (.slice e)) (hs : (P.info? e).map (·.size) = some size) (hx : a.eval x = .slice ao m pl) (hy : a.eval y = .int .i64 k) (hz : a.eval z = .int .i64 k) (hk : k ≤ pl)
    (h : K (a.put o.dst (.slice ao k k)) w) : Oper.wp P o a w K Q :=
  wp_value (exec_slice_full (o := o) (a := a) (w := w) t e x y z size ao m pl k ho ht hs hx hy hz hk) h
theorem exec_append {o : Oper} {a : Act} {w w' : World} {v : Value} {s x : Operand} {t : TypeId} {vs vx : Value} (ho : o.op = .call { callee := .builtin .append, args := #[s, x], argTypes := #[t, t] }) (hs : a.eval s = vs) (hx : a.eval x = vx)
    (hr : (Builtin.append_ #[t, t] o.type #[vs, vx]).run P w = .ok v w') : (execOp a.eval o).run P w = .ok (.value v) w' := by
 unfold execOp
 simp only [ho, resolve, invoke, builtin, Sem.run_bind, Sem.run_pure, Result.andThen_ok, List.map_toArray, List.map_cons, List.map_nil, hs, hx, hr]
theorem run_append_cap (w : World) (base : Nat) (t ty e : TypeId) (z : Value) (size bytes : Nat) (ht : P.underlying t = some (.slice e))
    (hinfo : (P.info? e).map (fun i => (i.zero, i.size, i.bytes)) = some (some z, size, bytes)) (hzs : z.cells.size = size) (hsz : 0 < size)
    (b : Addr) (n : Nat) (xs : List Value) (hown : w.ownsRow base e size (.slice (some b) n n) n xs)
    (ao : Option Addr) (m c : Nat) (news : List Value) (hl : news.length = m * size) (hnone : ao = none → m = 0 ∧ c = 0)
    (hnews : ∀ ad, ao = some ad → ∀ j u, news[j]? = some u → w.cell? (ad.add j) = some u) (h1 : ∀ u ∈ news, u.oneCell' = true)
    (h63 : n + m ≤ 4294967296) (hbytes : bytes ≤ 1024) (hbase : base ≤ w.heap.size) :
    ∃ v' w', (Builtin.append_ #[t, t] ty #[.slice (some b) n n, .slice ao m c]).run P w = .ok v' w' ∧ w'.ownsRow base e size v' (n + m) (xs ++ news) ∧ Below w.heap.size w w' := by
 rcases Nat.eq_zero_or_pos m with rfl | hm
 · have hn : news = [] := List.eq_nil_of_length_eq_zero (by simpa using hl)
   subst hn
   obtain ⟨i, hi, hz, hs, hb⟩ := info_parts hinfo
   refine ⟨.slice (some b) n n, w, ?_, by simpa using hown, Below.refl _ _⟩
   cases ao with
   | none =>
    obtain ⟨-, rfl⟩ := hnone rfl
    exact run_append_owned_none w base t ty e i size ht hi _ n xs hown
   | some ad => simp [Builtin.append_, run_underlying ht, sizeOf, typeInfo, hi, Builtin.lenOf, Builtin.firstCells, loadCells, loadCellsFrom, storeCells]
 · cases ao with
   | none => have := (hnone rfl).1; omega
   | some ad =>
    obtain ⟨g, rfl⟩ : ∃ g, b = ⟨g, 0, none⟩ := by
     obtain ⟨-, ⟨h, -⟩ | ⟨g, cap, cur, h, -⟩⟩ := hown
     · cases h
     · cases h; exact ⟨g, rfl⟩
    obtain ⟨v', w', hr, ho, hg, -⟩ := run_append_full (P := P) w base t ty e z size bytes ht hinfo hzs hsz (some ⟨g, 0, none⟩) n xs hown.1 (fun h => by cases h) (fun b' hb' j u hj => by
     cases hb'
     exact World.ownsRow.cells hown (g := g) rfl j u hj) ad m c news hl (hnews ad rfl) h1 hm h63 hbytes hbase
    exact ⟨v', w', hr, ho, (Below.refl _ _).grown hg (Nat.le_refl _) (fun k hk => by cases hk)⟩
end
theorem setCs_frozen {W : World} {b : Nat} : ∀ (l : List Value) (i : Nat) (a : Addr), (setCs W b i l).frozen? a = W.frozen? a
  | l, i, a => by
   induction l generalizing W i with
   | nil => rfl
   | cons v l ih => rw [setCs, ih]; exact World.frozen?_setCell _ _ _ _
theorem setCs_size : ∀ (l : List Value) (W : World) (b i : Nat), (setCs W b i l).heap.size = W.heap.size
  | [], _, _, _ => rfl
  | v :: l, W, b, i => by rw [setCs, setCs_size l, World.size_setCell]
section
variable {P : Program}
theorem run_append_y (w : World) (base : Nat) (t ty e : TypeId) (z : Value) (size bytes : Nat) (ht : P.underlying t = some (.slice e))
    (hinfo : (P.info? e).map (fun i => (i.zero, i.size, i.bytes)) = some (some z, size, bytes)) (hzs : z.cells.size = size) (hsz : 0 < size)
    (v : Value) (n : Nat) (xs : List Value) (hown : w.ownsRow base e size v n xs)
    (ao : Option Addr) (m c : Nat) (news : List Value) (hl : news.length = m * size) (hnone : ao = none → m = 0 ∧ c = 0)
    (hnews : ∀ ad, ao = some ad → ∀ j u, news[j]? = some u → w.cell? (ad.add j) = some u) (h1 : ∀ u ∈ news, u.oneCell' = true)
    (h63 : n + m ≤ 4294967296) (hbytes : bytes ≤ 1024) (hbase : base ≤ w.heap.size) :
    ∃ v' w', (Builtin.append_ #[t, t] ty #[v, .slice ao m c]).run P w = .ok v' w' ∧ w'.ownsRow base e size v' (n + m) (xs ++ news) ∧ w.grownBy w' v.ownBlock ∧ w'.ownsRow base e size v n xs := by
 obtain ⟨i, hi, hz, hs, hb⟩ := info_parts hinfo
 obtain ⟨v', w', hr, ho, hg, -⟩ := run_append_x (P := P) w base t ty e z size bytes ht hinfo hzs hsz v n xs hown ao m c news hl hnone hnews h1 h63 hbytes hbase
 refine ⟨v', w', hr, ho, hg, ?_⟩
 cases ao with
 | none =>
  obtain ⟨rfl, rfl⟩ := hnone rfl
  have hr2 := run_append_owned_none (P := P) w base t ty e i size ht hi v n xs hown
  rw [hr] at hr2
  cases hr2
  exact hown
 | some ad =>
  have hc := hnews ad rfl
  have hm1 : n + m ≤ maxLen := by unfold maxLen; omega
  have hm2 : (n + m) * bytes ≤ 140737488355328 := Nat.le_trans (Nat.mul_le_mul h63 hbytes) (by decide)
  obtain ⟨hx, ⟨rfl, rfl⟩ | ⟨g, cap, cur, rfl, hbg, hgg, hnc, hcm, hcs, htake⟩⟩ := hown
  · have hx0 : xs = [] := List.eq_nil_of_length_eq_zero (by simpa using hx)
    subst hx0
    exact World.ownsRow_nil _ _ _ _
  · by_cases hroom : n + m ≤ cap
    · obtain ⟨w2, hr2, _⟩ := run_append_fits (P := P) w base t ty e i size ht hi hs g n cap xs ⟨hx, .inr ⟨g, cap, cur, rfl, hbg, hgg, hnc, hcm, hcs, htake⟩⟩ ad m c news hl hc h1 hroom
      rw [hr] at hr2
      cases hr2
      obtain ⟨hx', ⟨h, -⟩ | ⟨g', cap', cur', he, hbg', hgg', hnc', hcm', hcs', htake'⟩⟩ := ho
      · cases h
      · cases he
        refine ⟨hx, .inr ⟨g, cap, cur', rfl, hbg', hgg', hnc, hcm', hcs', ?_⟩⟩
        have := congrArg (List.take (n * size)) htake'
        rw [List.take_take, Nat.min_eq_left (Nat.mul_le_mul_right _ xo), List.take_append_of_le_length (Nat.le_of_eq hx.symm), List.take_of_length_le (Nat.le_of_eq hx)] at this
        exact this
    · have holds := World.ownsRow.cells (w := w) (base := base) (e := e) (size := size) (n := n) (xs := xs) ⟨hx, .inr ⟨g, cap, cur, rfl, hbg, hgg, hnc, hcm, hcs, htake⟩⟩ (g := g) rfl
      have hr2 := run_append_grow (P := P) w t ty e i z ht hi hz ⟨g, 0, none⟩ n cap xs (by rw [hs]; exact hx) holds ad m c news (by rw [hs]; exact hl) hc xo xo (growslice_fits xo (by rw [hb]; exact hm2))
      rw [hr] at hr2
      cases hr2
      exact (World.ownsRow.drew ⟨hx, .inr ⟨g, cap, cur, rfl, hbg, hgg, hnc, hcm, hcs, htake⟩⟩).alloc _
end
theorem row_from {w : World} {ao : Option Addr} {L : List (Int × Int)} {m pl k : Nat} (h : IsRow .i64 w ao (prI L)) (hL : L.length = m) (hpl : m ≤ pl) (hk : k ≤ m) (hn : ao = none → pl = 0) :
    IsRow .i64 w (if pl = k then ao else ao.map (·.add (k * 2))) (prI (L.drop k)) ∧ ((if pl = k then ao else ao.map (·.add (k * 2))) = none → m - k = 0 ∧ pl - k = 0) := by
 have hlen : (prI (L.drop k)).length = (m - k) * 2 := by rw [prI_length, List.length_drop, hL]
 by_cases hp : pl = k
 · rw [if_pos hp]
   refine ⟨fun i hi => ?_, fun _ => by omega⟩
   rw [hlen] at hi
   omega
 · rw [if_neg hp]
   refine ⟨fun i hi => ?_, fun e => ?_⟩
   · rw [hlen] at hi
     obtain ⟨b, off, ha, hlt, hc⟩ := h (k * 2 + i) (by rw [prI_length, hL]; omega)
     subst ha
     refine ⟨b, off + k * 2, ?_, hlt, fun j hj => ?_⟩
     · simp only [Option.map_some, Addr.add]
       split
       · rename_i hz; rw [hz]; rfl
       · rfl
     rw [hlen] at hj
     have := hc (k * 2 + j) (by rw [prI_length, hL]; omega)
     rw [← Nat.add_assoc] at this
     rw [this]
     congr 2
     rw [show prI (L.drop k) = (prI L).drop (k * 2) from ?_, List.getD_eq_getElem?_getD, List.getD_eq_getElem?_getD, List.getElem?_drop]
     exact prI_drop L k
   · cases ao with
     | none => have := hn rfl; omega
     | some ad => cases e
theorem row_take {w : World} {ao : Option Addr} {L : List (Int × Int)} {k : Nat} (h : IsRow .i64 w ao (prI L)) (hk : k ≤ L.length) : IsRow .i64 w ao (prI (L.take k)) := by
 rw [prI_take]
 exact h.take _ (by rw [prI_length]; omega)
structure FactY (RA : World → World → Prop) where
 holds : Value → World → Prop
 own : Bool
 stB : ∀ v w w', RB w w' → holds v w → holds v w'
 stA : own = false → ∀ v w w', RA w w' → holds v w → holds v w'
def yAny (RA : World → World → Prop) : FactY RA := ⟨fun _ _ => True, false, fun _ _ _ _ _ => trivial, fun _ _ _ _ _ _ => trivial⟩
def yIs (RA : World → World → Prop) (x : Value) : FactY RA := ⟨fun v _ => v = x, false, fun _ _ _ _ h => h, fun _ _ _ _ _ h => h⟩
def yRow (RA : World → World → Prop) (base n : Nat) (xs : List Value) : FactY RA := ⟨fun v w => w.ownsRow base 31 2 v n xs, true, fun _ _ _ h h1 => owns_below h1 h, fun h => by cases h⟩
theorem owns_keep {w w' : World} {base : Nat} {e : TypeId} {s : Nat} {v : Value} {n : Nat} {xs : List Value} (h : w.ownsRow base e s v n xs) (hk : ∀ k, base ≤ k → k < w.heap.size → w'.heap[k]? = w.heap[k]?) : w'.ownsRow base e s v n xs :=
  owns_heap h fun k hb => hk k (h.lt k hb).1 (h.lt k hb).2
def ySl {RA : World → World → Prop} (base : Nat) (hA : ∀ w w', RA w w' → ∀ k, base ≤ k → k < w.heap.size → w'.heap[k]? = w.heap[k]?) (c : SlC) : FactY RA :=
  ⟨(FactR.sl base c).holds, false, fun v w w' h h1 => (FactR.sl base c).stays v w w' h h1,
    fun _ v w w' h ⟨v1, v2, v3, v4, e, h1, h2, h3, h4⟩ => ⟨v1, v2, v3, v4, e, owns_keep h1 (hA w w' h), owns_keep h2 (hA w w' h), owns_keep h3 (hA w w' h), owns_keep h4 (hA w w' h)⟩⟩
def ySl2 {RA : World → World → Prop} (base : Nat) (hA : ∀ w w', RA w w' → ∀ k, base ≤ k → k < w.heap.size → w'.heap[k]? = w.heap[k]?) (c : SlC) (x : Value) : FactY RA :=
  ⟨fun v w => ∃ y, v = .tuple #[y, x] ∧ (ySl base hA c).holds y w, false, fun _ _ _ h ⟨y, e, h1⟩ => ⟨y, e, (ySl base hA c).stB _ _ _ h h1⟩, fun _ _ _ _ h ⟨y, e, h1⟩ => ⟨y, e, (ySl base hA c).stA rfl _ _ _ h h1⟩⟩
def yAt {RA : World → World → Prop} (n : Nat) (ds : List Nat) (fs : List (FactY RA)) (k : Nat) (u : Nat → Value) (w : World) : Prop := k < n → (fs.getD k (yAny RA)).holds (u (ds.getD k 0)) w
def yExt (m : Nat) (RA : World → World → Prop) (i : Nat) (w w' : World) : Prop := (i = m → RA w w') ∧ (i ≠ m → RB w w')
theorem y_stays {RA : World → World → Prop} {n m : Nat} {ds : List Nat} {fs : List (FactY RA)} (h : ∀ k, k < n → k ≠ m → (fs.getD k (yAny RA)).own = false) : ∀ i k u w w', k ≠ i → yExt m RA i w w' → yAt n ds fs k u w → yAt n ds fs k u w' := by
 intro i k u w w' hne hE hG hk
 by_cases e : i = m
 · exact (fs.getD k (yAny RA)).stA (h k hk (fun q => hne (q.trans e.symm))) _ _ _ (hE.1 e) (hG hk)
 · exact (fs.getD k (yAny RA)).stB _ _ _ (hE.2 e) (hG hk)
theorem y_dep {RA : World → World → Prop} {l : List Oper} {n : Nat} {ds : List Nat} {fs : List (FactY RA)} (h : (List.range n).all (fun k => match l[k]? with | some o => o.dst == some (ds.getD k 0) | none => false) = true) :
    ∀ (k : Nat) (u u' : Nat → Value) (w : World), (∀ (j : Nat) (p o : Oper), l[j]? = some p → l[k]? = some o → (j = k ∨ (o.after.any fun e => Region.binds .any e && e.on == j) = true) → valOf u' p = valOf u p) → yAt n ds fs k u w → yAt n ds fs k u' w := by
 intro k u u' w hv hg hk
 have h1 := List.all_eq_true.1 h k (List.mem_range.2 hk)
 cases ho : l[k]? with
 | none => rw [ho] at h1; cases h1
 | some o =>
  rw [ho] at h1
  have h2 : o.dst = some (ds.getD k 0) := by simpa using h1
  have h3 := hv k o o ho ho (.inl rfl)
  have e : u' (ds.getD k 0) = u (ds.getD k 0) := by simpa [valOf, h2] using h3
  rw [e]
  exact hg hk
end
section
open Go.RowKit Go.BigFrame
theorem quiet_exec {P : Program} {C : World → Prop} {o : Oper} {a : Act} {K : Act → Prop} (v : Value) (h : ∀ w, (execOp a.eval o).run P w = .ok (.value v) w) (hk : K (a.put o.dst v)) : o.quiet P a C K :=
  ⟨_, fun w hw => by
   unfold Oper.quietAt
   rw [h w]
   exact ⟨rfl, rfl⟩, hk⟩
theorem exec_index {P : Program} {o : Oper} {a : Act} {w : World} (t e : TypeId) (x y : Operand) (size : Nat) (b off m pl k : Nat) (ho : o.op = .indexAddr t x y)
    (ht : P.underlying t = some (.slice e)) (hs : (P.info? e).map (·.size) = some size) (hx : a.eval x = .slice (some ⟨b, off, none⟩) m pl) (hy : a.eval y = .int .i64 k) (hk : k < m) :
    (execOp a.eval o).run P w = .ok (.value (.pointer (some ⟨b, off + k * size, none⟩))) w := by
 obtain ⟨i, hi, rfl⟩ := Option.map_eq_some_iff.1 hs
 unfold execOp
 simp [ho, hx, hy, Instr.indexAt, asIntOf, run_underlying ht, sizeOf, typeInfo, hi, hk, Addr.add]
theorem exec_index0 {P : Program} {o : Oper} {a : Act} {w : World} (t e : TypeId) (x y : Operand) (size : Nat) (b off m pl : Nat) (ho : o.op = .indexAddr t x y)
    (ht : P.underlying t = some (.slice e)) (hs : (P.info? e).map (·.size) = some size) (hx : a.eval x = .slice (some ⟨b, off, none⟩) m pl) (hy : a.eval y = .int .i64 0) (hk : 0 < m) :
    (execOp a.eval o).run P w = .ok (.value (.pointer (some ⟨b, off, none⟩))) w := by
 have := exec_index (P := P) (o := o) (a := a) (w := w) t e x y size b off m pl 0 ho ht hs hx hy hk
 simpa using this
end
end Go.Proofs.YtookgoidlnlckaaDoor
