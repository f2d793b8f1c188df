/- Merged: Plc, WndPl. -/
import Derived.Test.YtookgoidlnlckaaDoorGapNamesP10
import Derived.Test.YtookgoidlnlckaaDoorGapNamesP18
import Derived.Test.YtookgoidlnlckaaDoorGapNamesP1
namespace Go.Proofs.YtookgoidlnlckaaDoor
set_option maxRecDepth 100000
set_option maxHeartbeats 40000000
set_option linter.unusedVariables false
set_option linter.unusedSimpArgs false
section
open Go.RowKit Go.Shelf
attribute [local go_sem] Oper.semAt_some
def intsA (l : List Int) : List (Array Value) := l.map fun x => #[.int .i64 x]
theorem intsA_length (l : List Int) : (intsA l).length = l.length := by simp [intsA]
theorem intsA_get {l : List Int} {k : Nat} (h : k < l.length) : (intsA l).getD k #[] = #[.int .i64 (l.getD k 0)] := by
 simp [intsA, List.getD_eq_getElem?_getD, List.getElem?_eq_getElem h]
theorem take_succ_int {l : List Int} {k : Nat} (h : k < l.length) : l.take (k + 1) = l.take k ++ [l.getD k 0] := by
 rw [List.take_succ_eq_append_getElem h]
 simp [List.getD_eq_getElem?_getD, List.getElem?_eq_getElem h]
structure PlBox (W : World) (b1 b2 b3 : Nat) (m lo hi : Nat) : Prop where
 n : W.cell? ⟨b1, 0, none⟩ = some (.int .i64 m)
 lo : W.cell? ⟨b2, 0, none⟩ = some (.int .i64 lo)
 hi : W.cell? ⟨b3, 0, none⟩ = some (.int .i64 hi)
theorem PlBox.below {W W' : World} {b1 b2 b3 m lo hi : Nat} (h : PlBox W b1 b2 b3 m lo hi) (hb : Below W.heap.size W W') : PlBox W' b1 b2 b3 m lo hi :=
  ⟨(hb.cell (World.block_lt_of_cell? _ _ h.n)).trans h.n, (hb.cell (World.block_lt_of_cell? _ _ h.lo)).trans h.lo, (hb.cell (World.block_lt_of_cell? _ _ h.hi)).trans h.hi⟩
theorem PlBox.kept {S : Nat → Prop} {W W' : World} {b1 b2 b3 m lo hi : Nat} (h : PlBox W b1 b2 b3 m lo hi) (hk : KpS S W W') (s1 : S b1) (s2 : S b2) (s3 : S b3) : PlBox W' b1 b2 b3 m lo hi :=
  ⟨hk.cell (a := ⟨b1, 0, none⟩) s1 h.n, hk.cell (a := ⟨b2, 0, none⟩) s2 h.lo, hk.cell (a := ⟨b3, 0, none⟩) s3 h.hi⟩
theorem places1_iter (m lo hi : Nat) (hlh : lo ≤ hi) (hhi : hi ≤ 65536) (hm : m ≤ 65536) (S : Nat → Prop) (b1 b2 b3 : Nat) (s1 : S b1) (s2 : S b2) (s3 : S b3) (w : World) (hbx : PlBox w b1 b2 b3 m lo hi) :
    Iter Tryd.prog 85 #[.pointer (some ⟨b1, 0, none⟩), .pointer (some ⟨b2, 0, none⟩), .pointer (some ⟨b3, 0, none⟩)] (intsA (ints (plR m lo hi))) (KpS S) w := by
 intro l J Jx W hW hJ hJx hY h0
 have HY := hid hY
 have HJ := hid hJ
 have HBX := hid (hbx.below hW)
 have HLN := hid (show (intsA (ints (plR m lo hi))).length = m by rw [intsA_length, ints_length, plR_length])
 have HGT := hid (fun k (h : k < m) => show (intsA (ints (plR m lo hi))).getD k #[] = #[.int .i64 (plF m lo hi k : Nat)] by
  rw [intsA_get (by rw [ints_length, plR_length]; exact h), getD_ints, plR_get h])
 have HH0 := hid h0
 clear hY hJ hJx hbx h0
 generalize intsA (ints (plR m lo hi)) = xs at *
 refine callsIn_of_wp Tryd.func85 rfl trivial ?_ rfl
 simp only [Tryd.ntmps85, List.size_toArray, List.length_cons, List.length_nil, Nat.reduceAdd, Nat.reduceSub, Array.replicate_succ, Array.replicate_zero, List.push_toArray, List.append_toArray, List.nil_append, List.cons_append]
 have q1 := HBX.out.n
 gi_wp2
 gi_loopg [7] m (fun g iv wr => ∃ i : Nat, i + g = m ∧ iv = .int .i64 i ∧ Hid (J i wr) ∧ Hid (PlBox wr b1 b2 b3 m lo hi))
 case atStart => exact ⟨0, by omega, rfl, HH0, HBX⟩
 case round =>
  obtain ⟨i, hi', rfl, HJ0, HB⟩ := hrel
  clear q1 HH0
  by_cases hlt : i < m
  · obtain ⟨q1, q2, q3⟩ := HB.out
    have hb1 : i * (hi - lo) ≤ 65536 * 65536 := Nat.mul_le_mul xo xo
    obtain ⟨D, hD⟩ : ∃ D : Int, ((hi - lo : Nat) : Int) = D := ⟨_, rfl⟩
    have hDw : IntKind.i64.wrap ((hi : Int) - lo) = D := by rw [← hD]; rw [show (hi : Int) - lo = ((hi - lo : Nat) : Int) by omega]; exact IntWalk.i64_in _ xo
    obtain ⟨X, hX⟩ : ∃ X : Int, ((i * (hi - lo) : Nat) : Int) = X := ⟨_, rfl⟩
    have hXw : IntKind.i64.wrap ((i : Int) * D) = X := by rw [← hX, ← hD]; push_cast; exact IntWalk.i64_in _ (by push_cast at hb1; omega)
    obtain ⟨qn, hqn⟩ : ∃ qn, i * (hi - lo) / m = qn := ⟨_, rfl⟩
    have hqb : qn ≤ 65536 * 65536 := by rw [← hqn]; exact Nat.le_trans (Nat.div_le_self _ _) hb1
    have hqt : X.tdiv m = (qn : Int) := by rw [← hX, Int.tdiv_eq_ediv_of_nonneg xo, ← Int.natCast_ediv, hqn]
    have hqw : IntKind.i64.wrap (qn : Int) = qn := IntWalk.i64_in _ xo
    obtain ⟨pl, hpl⟩ : ∃ pl : Int, ((plF m lo hi i : Nat) : Int) = pl := ⟨_, rfl⟩
    have hplw : IntKind.i64.wrap ((lo : Int) + qn) = pl := by
     rw [← hpl, plF, hqn]
     push_cast
     exact IntWalk.i64_in _ xo
    have hpa := HGT.out i hlt
    rw [hpl] at hpa
    have hm0 : ((m : Int) == 0) = false := by simp; omega
    have hm1 : ¬ (m : Int) = 0 := xo
    have hm2 : ¬ m = 0 := xo
    have HI2 := hid hi'
    clear hD hX hqn hpl hqb hb1 hi'
    gi_wp2
    refine wpIn_region_facts 10 xk (N := 23) rfl xk xk (by decide) (fun w' => ∃ q, w' = wr.drewN q) (Ext 29) (factAt [.is (.func (.yield l) #[] #[]), .is (.int .i64 lo), .is (.int .i64 i), .is (.int .i64 hi), .is (.int .i64 lo), .is (.int .i64 D), .is (.int .i64 X), .is (.int .i64 m), .is (.int .i64 qn), .is (.int .i64 pl)]) (factAt_stays _) ⟨1, rfl⟩ ?steps ?fin
    case steps =>
     refine ⟨?o0, ?o1, ?o2, ?o3, ?o4, ?o5, ?o6, ?o7, ?o8, ?o9, trivial⟩
     case o0 =>
      intro u a w' ev hJ hd K hK
      rw [if_pos (wanted_free rfl)]
      have e0 : a.tmps.getD 0 undef = .func (.yield l) #[] #[] := ev 0 (by decide)
      have HK := hid hK
      clear hK ev hd
      go_simp
      exact HK.out _ _ (fun h => by cases h) hJ rfl (Ext.refl _ _)
     case o1 =>
      intro u a w' ev hJ hd K hK
      rw [if_pos (wanted_free rfl)]
      have e2 : a.tmps.getD 2 undef = .pointer (some ⟨b2, 0, none⟩) := ev 2 (by decide)
      have g0 := (cell_at_drew hJ q2)
      have HK := hid hK
      clear hK ev hd
      go_simp
      exact HK.out _ _ (fun h => by cases h) hJ rfl (Ext.refl _ _)
     case o2 =>
      intro u a w' ev hJ hd K hK
      rw [if_pos (wanted_free rfl)]
      have e5 : a.tmps.getD 5 undef = .int .i64 i := ev 5 (by decide)
      have HK := hid hK
      clear hK ev hd
      go_simp
      exact HK.out _ _ (fun h => by cases h) hJ rfl (Ext.refl _ _)
     case o3 =>
      intro u a w' ev hJ hd K hK
      rw [if_pos (wanted_free rfl)]
      have e3 : a.tmps.getD 3 undef = .pointer (some ⟨b3, 0, none⟩) := ev 3 (by decide)
      have g0 := (cell_at_drew hJ q3)
      have HK := hid hK
      clear hK ev hd
      go_simp
      exact HK.out _ _ (fun h => by cases h) hJ rfl (Ext.refl _ _)
     case o4 =>
      intro u a w' ev hJ hd K hK
      rw [if_pos (wanted_free rfl)]
      have e2 : a.tmps.getD 2 undef = .pointer (some ⟨b2, 0, none⟩) := ev 2 (by decide)
      have g0 := (cell_at_drew hJ q2)
      have HK := hid hK
      clear hK ev hd
      go_simp
      exact HK.out _ _ (fun h => by cases h) hJ rfl (Ext.refl _ _)
     case o5 =>
      intro u a w' ev hJ hd K hK
      rw [if_pos (wanted_free rfl)]
      have e13 : a.tmps.getD 13 undef = .int .i64 hi := (ev 13 (by decide)).trans (hd 3 _ xk rfl)
      have e14 : a.tmps.getD 14 undef = .int .i64 lo := (ev 14 (by decide)).trans (hd 4 _ xk rfl)
      have HK := hid hK
      clear hK ev hd
      go_simp
      exact HK.out _ _ (fun h => by cases h) hJ rfl (Ext.refl _ _)
     case o6 =>
      intro u a w' ev hJ hd K hK
      rw [if_pos (wanted_free rfl)]
      have e12 : a.tmps.getD 12 undef = .int .i64 i := (ev 12 (by decide)).trans (hd 2 _ xk rfl)
      have e15 : a.tmps.getD 15 undef = .int .i64 D := (ev 15 (by decide)).trans (hd 5 _ xk rfl)
      have HK := hid hK
      clear hK ev hd
      go_simp
      exact HK.out _ _ (fun h => by cases h) hJ rfl (Ext.refl _ _)
     case o7 =>
      intro u a w' ev hJ hd K hK
      rw [if_pos (wanted_free rfl)]
      have e1 : a.tmps.getD 1 undef = .pointer (some ⟨b1, 0, none⟩) := ev 1 (by decide)
      have g0 := (cell_at_drew hJ q1)
      have HK := hid hK
      clear hK ev hd
      go_simp
      exact HK.out _ _ (fun h => by cases h) hJ rfl (Ext.refl _ _)
     case o8 =>
      intro u a w' ev hJ hd K hK
      rw [if_pos (wanted_free rfl)]
      have e16 : a.tmps.getD 16 undef = .int .i64 X := (ev 16 (by decide)).trans (hd 6 _ xk rfl)
      have e17 : a.tmps.getD 17 undef = .int .i64 m := (ev 17 (by decide)).trans (hd 7 _ xk rfl)
      have HK := hid hK
      clear hK ev hd
      go_simp
      exact HK.out _ _ (fun h => by cases h) hJ rfl (Ext.refl _ _)
     case o9 =>
      intro u a w' ev hJ hd K hK
      rw [if_pos (wanted_free rfl)]
      have e11 : a.tmps.getD 11 undef = .int .i64 lo := (ev 11 (by decide)).trans (hd 1 _ xk rfl)
      have e18 : a.tmps.getD 18 undef = .int .i64 qn := (ev 18 (by decide)).trans (hd 8 _ xk rfl)
      have HK := hid hK
      clear hK ev hd
      go_simp
      exact HK.out _ _ (fun h => by cases h) hJ rfl (Ext.refl _ _)
    case fin =>
     intro u w3 hJ3 hG
     have h10 : u 10 = .func (.yield l) #[] #[] := hG 0 _ rfl
     have h19 : u 19 = .int .i64 pl := hG 9 _ rfl
     have hBq : Below wr.heap.size wr w3 := by obtain ⟨q, rfl⟩ := hJ3; exact below_drewN (Below.refl _ _) q
     have HBQ := hid hBq
     obtain ⟨fn, tmps, assign, body, hy, hR⟩ := HY.out i w3 (by rw [HLN.out]; exact hlt) (HJ.out _ _ _ HJ0.out hBq)
     rw [hpa] at hy
     clear hG hJ3 hpa hBq q1 q2 q3
     simp only [mixFrame, mixL, dstsOf, List.take_succ_cons, List.take_zero, List.filterMap_cons, List.filterMap_nil, List.contains_cons, List.contains_nil, Nat.reduceBEq, Bool.or_false, Bool.false_or, Bool.or_true, Bool.true_or, if_true, if_false, Bool.false_eq_true, Nat.reduceAdd, Nat.zero_add, List.drop_succ_cons, List.drop_zero, h10, h19]
     gi_wp2
     refine ⟨rfl, hR.mono ?_⟩
     rintro e W3 (⟨rfl, hJ3, hk3⟩ | ⟨rfl, hJx3⟩)
     · have HB3 := hid ((HB.out.below HBQ.out).kept hk3 s1 s2 s3)
       have HJ3 := hid hJ3
       clear hJ3 hk3 hy hR
       gi_wp2
       gi_roundg (gk - 1)
       case measure => have := HI2.out; omega
       case rel => exact ⟨i + 1, by have := HI2.out; omega, by go_num, HJ3, HB3⟩
     · have HJ3 := hid hJx3
       clear hJx3 hy hR
       gi_wp2
       exact bodyPost_ret (results_none rfl _ _ _) rfl ⟨⟨_, rfl⟩, .inr ⟨i + 1, by rw [HLN.out]; omega, HJ3.out⟩⟩
  · have him : i = m := xo
    subst him
    gi_wp2
    refine bodyPost_end (results_none rfl _ _ _) rfl ⟨⟨_, rfl⟩, .inl ?_⟩
    rw [HLN.out]
    exact HJ0.out
structure AppN (l : List Int) (B : Nat) (w : World) (k : Nat) (W : World) : Prop where
 own : ∃ v, W.cell? ⟨B, 0, none⟩ = some v ∧ W.ownsRow (B + 1) 3 1 v k ((l.take k).map (Value.int .i64))
 fz : W.frozen? ⟨B, 0, none⟩ = false
 bel : Below B w W
theorem AppN.calm {l : List Int} {B M : Nat} {w : World} {k : Nat} {W W' : World} (h : AppN l B w k W) (hc : Calm M W W') (hB : B ≤ M) : AppN l B w k W' := by
 obtain ⟨⟨v, h1, h2⟩, h3, h4⟩ := h
 exact ⟨⟨v, hc.cell h1, hc.owns h2⟩, hc.frozen h1 h3, hc.below hB h4⟩
theorem AppendInt_ok (l : List Int) (hl : l.length ≤ 100000) (gf : Nat) (lb : Array Value) (eg : ∀ args w, (callFunc gf args).run Tryd.prog w = .ok (.enter gf args) w) (w : World) (hit : Iter Tryd.prog gf lb (intsA l) (KpS (fun k => k < w.heap.size)) w) :
    Calls Tryd.prog 84 #[.slice none 0 0, .func (.func gf) #[] lb] w (FreshInts w l) := by
 have IT := hid (fun W (hb : Below w.heap.size w W) => hit.later hb)
 have HPL := hid (intsA_length l)
 have HPG := hid (fun k (h : k < l.length) => intsA_get h)
 clear hit
 refine calls_of_wp_m Tryd.func84 rfl ?_
 simp only [Tryd.ntmps84, List.size_toArray, List.length_cons, List.length_nil, Nat.reduceAdd, Nat.reduceSub, Array.replicate_succ, Array.replicate_zero, List.push_toArray, List.append_toArray, List.nil_append, List.cons_append]
 go_wp2
 refine wp_range_w (xs := intsA l) (Kp := KpS (fun k => k < w.heap.size)) rfl eg
   (IT.out _ ((Below.refl _ _).alloc (Nat.le_refl _) _)) (Below.refl _ _) (fun h k => fun i hi => (k i hi).trans (h i hi)) ?kb ?ps
   (AppN l w.heap.size w) (fun _ _ => False) ?hI (fun _ _ _ h _ => h) ?h0 ?round ?done (fun _ _ _ _ h _ => h.elim)
 case kb =>
  intro W q o o' hl _ _ k hk
  simp at hl
  exact World.putObj_heap_other xo
 case ps =>
  intro x hx
  simp only [intsA, List.mem_map] at hx
  obtain ⟨k, _, rfl⟩ := hx
  rfl
 case hI =>
  intro k W W' h hc
  exact h.calm hc (by simp)
 case h0 =>
  exact ⟨⟨_, by (exact xcn), World.ownsRow_nil _ _ _ _⟩, by (exact xcn), by (exact xbel)⟩
 case round =>
  intro q k W hq hk hi
  rw [HPL.out] at hk
  rw [HPG.out k hk]
  have htk := hid (take_succ_int hk)
  generalize l.getD k 0 = x at *
  obtain ⟨⟨v, hv, ho⟩, hfz, hbel⟩ := hi
  have hzb : w.heap.size < W.heap.size := World.block_lt_of_cell? _ _ hv
  obtain ⟨ao, co, rfl, -⟩ := owns_news ho
  have hlt1 : (l.take k).length = k := by rw [List.length_take]; omega
  gi_wp2
  have hab : Below W.heap.size W W := Below.refl _ _
  refine ⟨keeps_below hab, fun i hi => hab.block i xo, ?_⟩
  intro W2 hc
  have hv2 : W2.cell? ⟨w.heap.size, 0, none⟩ = some (.slice ao k co) := hc.cell ((hab.cell (p := ⟨w.heap.size, 0, none⟩) hzb).trans hv)
  have hfz2 : W2.frozen? ⟨w.heap.size, 0, none⟩ = false := hc.frozen ((hab.cell (p := ⟨w.heap.size, 0, none⟩) hzb).trans hv) ((hab.frozen (p := ⟨w.heap.size, 0, none⟩) hzb).trans hfz)
  have ho2 := hc.owns (owns_below ho hab)
  have hbel2 : Below w.heap.size w W2 := hc.below (by simp) hbel
  have hz2 := hbel2.size
  have HO2 := hid ho2
  have HB2 := hid hbel2
  have hzw : w.heap.size < W2.heap.size := World.block_lt_of_cell? _ _ hv2
  clear ho hbel hab hc ho2 hbel2 hv hfz
  gi_wp2_with (gi_at_builtin; refine wpListIn_append_own _ rfl (.tmp 8) (.tmp 10) 26 rfl (w.heap.size + 1) 3 _ (.int .i64 0) 1 8 Tryd.underlying26 (info_parts info_int).choose_spec.1 (info_parts info_int).choose_spec.2.1 (info_parts info_int).choose_spec.2.2.1 (info_parts info_int).choose_spec.2.2.2 rfl (by decide) _ k _ rfl (HO2.out.alloc (.cells #[.int .i64 x] 3)) ⟨W2.heap.size, 0, none⟩ 1 1 [.int .i64 x] rfl rfl (new_cells _ [.int .i64 x] _ _ rfl _ rfl) (by simp [Value.oneCell']) (by unfold maxLen; omega) xo (by simp; omega) ?_; intro v' w3 ho3 hg3 _
               obtain ⟨a3, c3, rfl, -⟩ := owns_news ho3
               have hne3 : some w.heap.size ≠ (Value.slice ao k co).ownBlock := fun e => (by have := (HO2.out.lt _ e.symm).1; omega)
               have hbl3 := hg3.block w.heap.size (by simp; omega) hne3
               have hv3 : w3.cell? ⟨w.heap.size, 0, none⟩ = some (.slice ao k co) := (World.cell?_of_block (a := ⟨w.heap.size, 0, none⟩) hbl3).trans ((((Below.refl _ W2).alloc (Nat.le_refl _) _).cell (p := ⟨w.heap.size, 0, none⟩) hzw).trans hv2)
               have hfz3 : w3.frozen? ⟨w.heap.size, 0, none⟩ = false := (World.frozen?_of_block (a := ⟨w.heap.size, 0, none⟩) hbl3).trans ((((Below.refl _ W2).alloc (Nat.le_refl _) _).frozen (p := ⟨w.heap.size, 0, none⟩) hzw).trans hfz2)
               have HO3 := hid ho3
               have HG3 := hid hg3
               clear ho3 hg3 hbl3 hne3)
  have hB3 : Below w.heap.size w w3 := (HB2.out.alloc xo (.cells #[.int .i64 x] 3)).grown HG3.out (by simp; omega) (fun z hz => by have := (HO2.out.lt _ hz).1; omega)
  have hK3 : KeepsOthers W2 w3 := (keeps_below (((Below.refl _ W2).alloc (Nat.le_refl _) _))).trans (KeepsOthers.of_grownBy HG3.out (own_isCells (HO2.out.alloc _)))
  refine ⟨hK3.trans (KeepsOthers.setCell _ _ _), fun i hi => ?_, ⟨⟨_, World.cell?_setCell_same _ _ _ hv3, ?_⟩, ?_, hB3.setCell (Nat.le_refl _) _⟩⟩
  · rw [Below.heap_setCell _ _ _ _ (show i ≠ w.heap.size by omega), HG3.out.block i (by simp; omega) (fun e => by have := (HO2.out.lt _ e.symm).1; omega)]
    exact ((Below.refl _ W2).alloc (Nat.le_refl _) _).block i xo
  · rw [htk.out, List.map_append]
    exact owns_heap HO3.out fun z hz => Below.heap_setCell _ _ _ _ (by have := (HO3.out.lt _ hz).1; show z ≠ w.heap.size; omega)
  · rw [World.frozen?_setCell]; exact hfz3
 case done =>
  intro D W hD hi hK
  obtain ⟨⟨v, hv, ho⟩, hfz, hbel⟩ := hi
  rw [HPL.out, List.take_length] at ho
  obtain ⟨ao, co, rfl, -⟩ := owns_news ho
  have HO := hid ho
  have HB := hid hbel
  clear ho hbel
  go_wp2
  simp at hD
  refine postM_one hK (results_tmp rfl _ _ _) ⟨_, rfl, ?_, ?_⟩
  · exact owns_base ((Calm.putObj (B := 0) _ (Nat.zero_le _) hK rfl).owns HO.out) xo
  · exact (Calm.putObj (B := w.heap.size) _ xo hK rfl).below (Nat.le_refl _) HB.out
theorem CollectInt_ok (l : List Int) (hl : l.length ≤ 100000) (gf : Nat) (lb : Array Value) (eg : ∀ args w, (callFunc gf args).run Tryd.prog w = .ok (.enter gf args) w) (w : World) (hit : Iter Tryd.prog gf lb (intsA l) (KpS (fun k => k < w.heap.size)) w) :
    Calls Tryd.prog 81 #[.func (.func gf) #[] lb] w (FreshInts w l) := by
 have A := hid (AppendInt_ok l hl gf lb eg w hit)
 clear hit
 go_enter Tryd.func81, Tryd.ntmps81
 go_wp2_with fail
 refine A.out.mono ?_
 rintro e w1 ⟨v, rfl, ho, hb⟩
 have HO := hid ho
 have HB := hid hb
 clear ho hb
 go_wp2
 go_ret
 exact ⟨v, rfl, HO.out, HB.out⟩
theorem splaces_ok (m lo hi : Int) (w : World) :
    Calls Tryd.prog 82 #[.int .i64 m, .int .i64 lo, .int .i64 hi] w fun e w' => e = .returned (.func (.func 85) #[] #[.pointer (some ⟨w.heap.size, 0, none⟩), .pointer (some ⟨w.heap.size + 1, 0, none⟩), .pointer (some ⟨w.heap.size + 2, 0, none⟩)]) ∧
      w' = ((w.alloc (.cells #[.int .i64 m] 3)).alloc (.cells #[.int .i64 lo] 3)).alloc (.cells #[.int .i64 hi] 3) := by
 go_enter Tryd.func82, Tryd.ntmps82
 go_wp2
 go_ret
 exact ⟨rfl, rfl⟩
theorem smay_ok (m lo hi : Nat) (hlh : lo ≤ hi) (hhi : hi ≤ 65536) (hm : m ≤ hi - lo) (w : World) :
    Calls Tryd.prog 80 #[.int .i64 m, .int .i64 lo, .int .i64 hi] w fun e w' => e = .returned (.bool true) ∧ w = w' := by
 have hw : IntKind.i64.wrap ((hi : Int) - lo) = (hi : Int) - lo := IntWalk.i64_in _ xo
 have hg : decide ((m : Int) ≤ (hi : Int) - lo) = true := by simp; omega
 go_enter Tryd.func80, Tryd.ntmps80
 go_wp2
 go_ret
 exact ⟨rfl, rfl⟩
def FreshI2 (w : World) (l : List Int) (x : Value) (e : Ending) (w' : World) : Prop :=
  ∃ v, e = .returned (.tuple #[v, x]) ∧ w'.ownsRow w.heap.size 3 1 v l.length (l.map (Value.int .i64)) ∧ Below w.heap.size w w'
theorem Places_ok (m lo hi : Nat) (hlh : lo ≤ hi) (hhi : hi ≤ 65536) (hm : m ≤ hi - lo) (w : World) :
    Calls Tryd.prog 71 #[.int .i64 m, .int .i64 lo, .int .i64 hi] w (FreshI2 w (ints (plR m lo hi)) (.int .i64 0)) := by
 have MY := hid (fun w => smay_ok m lo hi hlh hhi hm w)
 have PS := hid (fun w => splaces_ok m lo hi w)
 have HL := hid (show (ints (plR m lo hi)).length ≤ 100000 by rw [ints_length, plR_length]; omega)
 have IT := hid (fun W hbx => places1_iter m lo hi hlh hhi xo (fun k => k < w.heap.size + 3) w.heap.size (w.heap.size + 1) (w.heap.size + 2) xo xo xo W hbx)
 generalize ints (plR m lo hi) = L at *
 go_enter Tryd.func71, Tryd.ntmps71
 go_wp2_with (first
   | (go_at_call 80; refine (MY.out _).mono ?_; rintro e w' ⟨rfl, rfl⟩)
   | (go_at_call 82; refine (PS.out _).mono ?_; rintro e w' ⟨rfl, rfl⟩)
   | (go_at_call 81; fail))
 have hB : Below w.heap.size w (((w.alloc (.cells #[.int .i64 m] 3)).alloc (.cells #[.int .i64 lo] 3)).alloc (.cells #[.int .i64 hi] 3)) := xbel
 have hI : Iter Tryd.prog 85 #[.pointer (some ⟨w.heap.size, 0, none⟩), .pointer (some ⟨w.heap.size + 1, 0, none⟩), .pointer (some ⟨w.heap.size + 2, 0, none⟩)] (intsA L) (KpS (fun k => k < w.heap.size + 3)) (((w.alloc (.cells #[.int .i64 m] 3)).alloc (.cells #[.int .i64 lo] 3)).alloc (.cells #[.int .i64 hi] 3)) :=
   IT.out _ ⟨by (exact xcn), by (exact xcn), by (exact xcn)⟩
 have hz : (((w.alloc (.cells #[.int .i64 m] 3)).alloc (.cells #[.int .i64 lo] 3)).alloc (.cells #[.int .i64 hi] 3)).heap.size = w.heap.size + 3 := by simp
 generalize (((w.alloc (.cells #[.int .i64 m] 3)).alloc (.cells #[.int .i64 lo] 3)).alloc (.cells #[.int .i64 hi] 3)) = w1 at *
 rw [← hz] at hI
 have CO := hid (CollectInt_ok L HL.out 85 _ (fun args w => rfl) w1 hI)
 have HB := hid hB
 clear hI hB IT
 go_wp2_with fail
 refine CO.out.mono ?_
 rintro e w2 ⟨v, rfl, ho, hb⟩
 have HO := hid (owns_base ho (by omega : w.heap.size ≤ w1.heap.size))
 have HB2 := xv hb HB
 clear ho hb
 go_wp2
 go_ret2
 exact ⟨v, rfl, HO.out, HB2.out⟩
end
section
open Go.RowKit
def topI (p : Nat → Bool) : Nat → Int
  | 0 => -1
  | n + 1 => if p n = true then n else topI p n
theorem topI_zero (p : Nat → Bool) : topI p 0 = -1 := rfl
theorem topI_yes {p : Nat → Bool} {n : Nat} (h : p n = true) : topI p (n + 1) = n := by rw [topI, if_pos h]
theorem topI_no {p : Nat → Bool} {n : Nat} (h : p n = false) : topI p (n + 1) = topI p n := by rw [topI, if_neg (by simp [h])]
theorem topI_cases (p : Nat → Bool) : ∀ n, (topI p n = -1 ∧ ∀ i, i < n → p i = false) ∨ ∃ k, k < n ∧ topI p n = (k : Nat) ∧ p k = true ∧ ∀ i, k < i → i < n → p i = false
  | 0 => Or.inl ⟨rfl, fun i hi => by omega⟩
  | n + 1 => by
   cases h : p n with
   | true => exact Or.inr ⟨n, by omega, topI_yes h, h, fun i h1 h2 => by omega⟩
   | false =>
    rw [topI_no h]
    rcases topI_cases p n with ⟨e, hn⟩ | ⟨k, hk, e, hp, hn⟩
    · refine Or.inl ⟨e, fun i hi => ?_⟩
      rcases Nat.lt_or_ge i n with q | q
      · exact hn i q
      · rw [show i = n by omega]; exact h
    · refine Or.inr ⟨k, by omega, e, hp, fun i h1 h2 => ?_⟩
      rcases Nat.lt_or_ge i n with q | q
      · exact hn i h1 q
      · rw [show i = n by omega]; exact h
theorem topI_bd (p : Nat → Bool) (n : Nat) : -1 ≤ topI p n ∧ topI p n < n ∨ (topI p n = -1 ∧ n = 0) := by
 rcases topI_cases p n with ⟨e, _⟩ | ⟨k, hk, e, _⟩ <;> omega
def wnd (a h at_ : Nat) : Nat := at_ / 2 ^ (a + h)
theorem wnd_bd {a h H at_ : Nat} (hh : h ≤ H) (hat : at_ < 2 ^ a * 2 ^ H) : (wnd a h at_ + 1) * 2 ^ h ≤ 2 ^ H ∧ wnd a h at_ * 2 ^ (a + h) ≤ at_ ∧ at_ < (wnd a h at_ + 1) * 2 ^ (a + h) ∧ (wnd a h at_ + 1) * 2 ^ (a + h) ≤ 2 ^ a * 2 ^ H := by
 have hp := Nat.two_pow_pos (a + h)
 have e1 : 2 ^ a * 2 ^ H = 2 ^ (H - h) * 2 ^ (a + h) := by rw [← Nat.pow_add, ← Nat.pow_add]; congr 1; omega
 have e2 : 2 ^ H = 2 ^ (H - h) * 2 ^ h := by rw [← Nat.pow_add]; congr 1; omega
 have hw : wnd a h at_ < 2 ^ (H - h) := by
  unfold wnd
  rw [Nat.div_lt_iff_lt_mul hp, ← e1]; exact hat
 have h1 := Nat.div_mul_le_self at_ (2 ^ (a + h))
 have h2 := Nat.lt_div_mul_add hp (a := at_)
 refine ⟨?_, h1, ?_, ?_⟩
 · rw [e2]; exact Nat.mul_le_mul_right _ hw
 · rw [Nat.succ_mul]; exact h2
 · rw [e1]; exact Nat.mul_le_mul_right _ hw
theorem wnd_seg (a h at_ : Nat) : wnd a h at_ * 2 ^ (a + h) = wnd a h at_ * 2 ^ h * 2 ^ a ∧ (wnd a h at_ + 1) * 2 ^ (a + h) = (wnd a h at_ + 1) * 2 ^ h * 2 ^ a ∧ wnd a h at_ * 2 ^ (a + h) + 2 ^ (a + h) = (wnd a h at_ + 1) * 2 ^ (a + h) := by
 refine ⟨?_, ?_, by rw [Nat.succ_mul]⟩
 · rw [Nat.pow_add, Nat.mul_comm (2 ^ a), Nat.mul_assoc]
 · rw [Nat.pow_add, Nat.mul_comm (2 ^ a), Nat.mul_assoc]
end
end Go.Proofs.YtookgoidlnlckaaDoor
