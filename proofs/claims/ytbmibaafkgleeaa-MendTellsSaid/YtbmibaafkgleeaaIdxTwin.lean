/- The walk of the reference's Twin of an index. -/
import Derived.Test.YtbmibaafkgleeaaInvFc
import Derived.Test.YtbmibaafkgleeaaStep
namespace Go.Proofs.Ytbmibaafkgleeaa
open Go.RowKit
set_option linter.unusedVariables false
set_option linter.unusedSimpArgs false

abbrev ixV (L : Int) (ma : Option Addr) (m mc : Nat) (ca : Option Addr) (c cc : Nat) : Value := .agg #[.int .i64 L, .slice ma m mc, .slice ca c cc]
theorem info_int64 : (Try.prog.info? 2).map (fun i => (i.zero, i.size, i.bytes)) = some (some (.int .i64 0), 1, 8) := by kernel_rfl
theorem ints_news {w : World} {ga : Option Addr} {xs : List Int} (h : IsInts w ga xs) : ∀ ad, ga = some ad → ∀ j u, (xs.map (Value.int .i64))[j]? = some u → w.cell? (ad.add j) = some u := by
  rintro ad rfl j u hj
  rw [List.getElem?_map] at hj
  cases hx : xs[j]? with
  | none => rw [hx] at hj; cases hj
  | some v =>
    rw [hx] at hj
    have hjl := (List.getElem?_eq_some_iff.1 hx).1
    obtain ⟨b, o, h1, _, hc⟩ := h j hjl
    cases h1
    rw [Addr.add_lit, hc j hjl, List.getD_eq_getElem?_getD, hx]
    exact hj

/-- a new index -/
def FreshIx (w : World) (L : Int) (ms cs : List Int) (e : Ending) (w' : World) : Prop :=
  ∃ v u, e = .returned (.agg #[.int .i64 L, v, u]) ∧ w'.ownsRow w.heap.size 2 1 v ms.length (ms.map (Value.int .i64)) ∧ w'.ownsRow w.heap.size 3 1 u cs.length (cs.map (Value.int .i64)) ∧ Below w.heap.size w w'

set_option maxRecDepth 100000 in
set_option maxHeartbeats 1000000 in
theorem Twin18_ok (L : Int) (ma ca : Option Addr) (mc cc : Nat) (ms cs : List Int) (w : World) (hm : IsInts w ma ms) (hc : IsInts w ca cs) (hlm : ms.length ≤ 100000) (hlc : cs.length ≤ 100000) (hmn : ma = none → ms.length = 0 ∧ mc = 0) (hcn : ca = none → cs.length = 0 ∧ cc = 0) :
    Calls Try.prog 11 #[ixV L ma ms.length mc ca cs.length cc] w (FreshIx w L ms cs) := by
  have HM := Lib.hid hm
  have HC := Lib.hid hc
  clear hm hc
  go_enter Try.func11, Try.ntmps11
  go_wp2
  have hS : Below w.heap.size w ((w.alloc (.cells #[.int .i64 L, .slice ma ms.length mc, .slice ca cs.length cc] 25)).alloc (.cells #[.int .i64 0, .slice none 0 0, .slice none 0 0] 25)) := ((Below.refl _ _).alloc (Nat.le_refl _) _).alloc (by simp) _
  have HS := Lib.hid hS
  clear hS
  generalize hw1 : ((w.alloc (.cells #[.int .i64 L, .slice ma ms.length mc, .slice ca cs.length cc] 25)).alloc (.cells #[.int .i64 0, .slice none 0 0, .slice none 0 0] 25)) = wz at *
  have hz : wz.heap.size = w.heap.size + 1 + 1 := by rw [← hw1]; simp
  have f0 : wz.cell? ⟨w.heap.size, 0, none⟩ = some (.int .i64 L) := by rw [← hw1]; ((try simp (disch := first | omega | (simp only [szW] <;> omega) | fail) only [ceW]) <;> rfl)
  have f1 : wz.cell? ⟨w.heap.size, 1, none⟩ = some (.slice ma ms.length mc) := by rw [← hw1]; ((try simp (disch := first | omega | (simp only [szW] <;> omega) | fail) only [ceW]) <;> rfl)
  have f2 : wz.cell? ⟨w.heap.size, 2, none⟩ = some (.slice ca cs.length cc) := by rw [← hw1]; ((try simp (disch := first | omega | (simp only [szW] <;> omega) | fail) only [ceW]) <;> rfl)
  have d0 : wz.cell? ⟨w.heap.size + 1, 0, none⟩ = some (.int .i64 0) := by rw [← hw1]; ((try simp (disch := first | omega | (simp only [szW] <;> omega) | fail) only [ceW]) <;> rfl)
  have d1 : wz.cell? ⟨w.heap.size + 1, 1, none⟩ = some (.slice none 0 0) := by rw [← hw1]; ((try simp (disch := first | omega | (simp only [szW] <;> omega) | fail) only [ceW]) <;> rfl)
  have d2 : wz.cell? ⟨w.heap.size + 1, 2, none⟩ = some (.slice none 0 0) := by rw [← hw1]; ((try simp (disch := first | omega | (simp only [szW] <;> omega) | fail) only [ceW]) <;> rfl)
  have q0 : wz.frozen? ⟨w.heap.size + 1, 0, none⟩ = false := by rw [← hw1]; ((try simp (disch := first | omega | (simp only [szW] <;> omega) | fail) only [ceW]) <;> rfl)
  have q1 : wz.frozen? ⟨w.heap.size + 1, 1, none⟩ = false := by rw [← hw1]; ((try simp (disch := first | omega | (simp only [szW] <;> omega) | fail) only [ceW]) <;> rfl)
  have q2 : wz.frozen? ⟨w.heap.size + 1, 2, none⟩ = false := by rw [← hw1]; ((try simp (disch := first | omega | (simp only [szW] <;> omega) | fail) only [ceW]) <;> rfl)
  clear hw1
  refine wp_region_facts 11 (by kernel_rfl) (N := 14) rfl (by kernel_rfl) (by kernel_rfl) (by decide) (fun w' => Below wz.heap.size wz w') (Ext 25) (factAt [
    .is (.pointer (some ⟨w.heap.size, 0, none⟩)), .is (.int .i64 L), .empty wz.heap.size 2 (by decide), .is (.pointer (some ⟨w.heap.size, 1, none⟩)), .is (.slice ma ms.length mc), .row wz.heap.size 2 (by decide) 1 ms.length (ms.map (Value.int .i64)),
    .empty wz.heap.size 3 (by decide), .is (.pointer (some ⟨w.heap.size, 2, none⟩)), .is (.slice ca cs.length cc), .row wz.heap.size 3 (by decide) 1 cs.length (cs.map (Value.int .i64)),
    .agg3 (.is (.int .i64 L)) (.row wz.heap.size 2 (by decide) 1 ms.length (ms.map (Value.int .i64))) (.row wz.heap.size 3 (by decide) 1 cs.length (cs.map (Value.int .i64)))]) (factAt_stays _) (Below.refl _ _).drew ?steps ?fin
  case steps =>
    refine ⟨?o0, ?o1, ?o2, ?o3, ?o4, ?o5, ?o6, ?o7, ?o8, ?o9, ?o10, trivial⟩
    case o0 =>
      intro u a w' ev hJ hd K hK
      have e1 : a.tmps.getD 1 undef = .pointer (some ⟨w.heap.size, 0, none⟩) := ev 1 (by decide)
      have HK := Lib.hid hK
      clear hK ev hd
      go_simp
      exact HK.out _ _ (fun h => by cases h) hJ rfl (Ext.refl _ _)
    case o1 =>
      intro u a w' ev hJ hd K hK
      have e3 : a.tmps.getD 3 undef = .pointer (some ⟨w.heap.size, 0, none⟩) := (ev 3 (by decide)).trans (hd 0 _ (by kernel_rfl) rfl)
      have g0 := (hJ.cell (p := ⟨w.heap.size, 0, none⟩) (by show w.heap.size < _; omega)).trans f0
      have HK := Lib.hid hK
      clear hK ev hd
      go_simp
      exact HK.out _ _ (fun h => by cases h) hJ rfl (Ext.refl _ _)
    case o2 =>
      intro u a w' ev hJ hd K hK
      have HK := Lib.hid hK
      have hz' := hJ.size
      clear hK ev hd
      go_simp
      exact HK.out _ _ (fun h => by cases h) (hJ.alloc hz' _) ⟨_, rfl, owns_empty (alloc_new _ _) hz'⟩ (Ext.below ((Below.refl _ _).alloc (Nat.le_refl _) _))
    case o3 =>
      intro u a w' ev hJ hd K hK
      have e1 : a.tmps.getD 1 undef = .pointer (some ⟨w.heap.size, 0, none⟩) := ev 1 (by decide)
      have HK := Lib.hid hK
      clear hK ev hd
      go_simp
      exact HK.out _ _ (fun h => by cases h) hJ rfl (Ext.refl _ _)
    case o4 =>
      intro u a w' ev hJ hd K hK
      have e6 : a.tmps.getD 6 undef = .pointer (some ⟨w.heap.size, 1, none⟩) := (ev 6 (by decide)).trans (hd 3 _ (by kernel_rfl) rfl)
      have g0 := (hJ.cell (p := ⟨w.heap.size, 1, none⟩) (by show w.heap.size < _; omega)).trans f1
      have HK := Lib.hid hK
      clear hK ev hd
      go_simp
      exact HK.out _ _ (fun h => by cases h) hJ rfl (Ext.refl _ _)
    case o5 =>
      intro u a w' ev hJ hd K hK
      obtain ⟨g, h1, h2⟩ : (Fact.empty (T := 25) wz.heap.size 2 (by decide)).holds (u 5) w' := hd 2 _ (by kernel_rfl) rfl
      have h3 : u 7 = .slice ma ms.length mc := hd 4 _ (by kernel_rfl) rfl
      have e1 : a.tmps.getD 5 undef = .slice (some ⟨g, 0, none⟩) 0 0 := (ev 5 (by decide)).trans h1
      have e2 : a.tmps.getD 7 undef = .slice ma ms.length mc := (ev 7 (by decide)).trans h3
      rw [h1] at h2
      have hIn := HM.out.below (below_via hJ HS.out (by omega))
      exact wp_append_empty (.tmp 5) (.tmp 7) 22 2 (.int .i64 0) 8 Try.underlying22 info_int64 rfl (by decide) wz.heap.size g ma ms.length mc (ms.map (Value.int .i64)) h2 (by simp) hmn (ints_news hIn) (oneCells _) (by omega) hJ.size rfl e1 e2
        (fun v' w'' k1 k2 => hK _ _ (fun h => by cases h) (hJ.trans (k2.mono hJ.size)) k1 (Ext.below k2))
    case o6 =>
      intro u a w' ev hJ hd K hK
      have HK := Lib.hid hK
      have hz' := hJ.size
      clear hK ev hd
      go_simp
      exact HK.out _ _ (fun h => by cases h) (hJ.alloc hz' _) ⟨_, rfl, owns_empty (alloc_new _ _) hz'⟩ (Ext.below ((Below.refl _ _).alloc (Nat.le_refl _) _))
    case o7 =>
      intro u a w' ev hJ hd K hK
      have e1 : a.tmps.getD 1 undef = .pointer (some ⟨w.heap.size, 0, none⟩) := ev 1 (by decide)
      have HK := Lib.hid hK
      clear hK ev hd
      go_simp
      exact HK.out _ _ (fun h => by cases h) hJ rfl (Ext.refl _ _)
    case o8 =>
      intro u a w' ev hJ hd K hK
      have e10 : a.tmps.getD 10 undef = .pointer (some ⟨w.heap.size, 2, none⟩) := (ev 10 (by decide)).trans (hd 7 _ (by kernel_rfl) rfl)
      have g0 := (hJ.cell (p := ⟨w.heap.size, 2, none⟩) (by show w.heap.size < _; omega)).trans f2
      have HK := Lib.hid hK
      clear hK ev hd
      go_simp
      exact HK.out _ _ (fun h => by cases h) hJ rfl (Ext.refl _ _)
    case o9 =>
      intro u a w' ev hJ hd K hK
      obtain ⟨g, h1, h2⟩ : (Fact.empty (T := 25) wz.heap.size 3 (by decide)).holds (u 9) w' := hd 6 _ (by kernel_rfl) rfl
      have h3 : u 11 = .slice ca cs.length cc := hd 8 _ (by kernel_rfl) rfl
      have e1 : a.tmps.getD 9 undef = .slice (some ⟨g, 0, none⟩) 0 0 := (ev 9 (by decide)).trans h1
      have e2 : a.tmps.getD 11 undef = .slice ca cs.length cc := (ev 11 (by decide)).trans h3
      rw [h1] at h2
      have hIn := HC.out.below (below_via hJ HS.out (by omega))
      exact wp_append_empty (.tmp 9) (.tmp 11) 23 3 (.int .i64 0) 8 Try.underlying23 info_int rfl (by decide) wz.heap.size g ca cs.length cc (cs.map (Value.int .i64)) h2 (by simp) hcn (ints_news hIn) (oneCells _) (by omega) hJ.size rfl e1 e2
        (fun v' w'' k1 k2 => hK _ _ (fun h => by cases h) (hJ.trans (k2.mono hJ.size)) k1 (Ext.below k2))
    case o10 =>
      intro u a w' ev hJ hd K hK
      have h1 : u 4 = .int .i64 L := hd 1 _ (by kernel_rfl) rfl
      have h2 : (Fact.row (T := 25) wz.heap.size 2 (by decide) 1 ms.length (ms.map (Value.int .i64))).holds (u 8) w' := hd 5 _ (by kernel_rfl) rfl
      have h3 : (Fact.row (T := 25) wz.heap.size 3 (by decide) 1 cs.length (cs.map (Value.int .i64))).holds (u 12) w' := hd 9 _ (by kernel_rfl) rfl
      obtain ⟨a8, c8, k8, -⟩ := owns_news h2
      obtain ⟨a12, c12, k12, -⟩ := owns_news h3
      have e4 : a.tmps.getD 4 undef = .int .i64 L := (ev 4 (by decide)).trans h1
      have e8 : a.tmps.getD 8 undef = .slice a8 ms.length c8 := (ev 8 (by decide)).trans k8
      have e12 : a.tmps.getD 12 undef = .slice a12 cs.length c12 := (ev 12 (by decide)).trans k12
      have f4 : a.tmps[4]?.getD undef = .int .i64 L := by rw [← Array.getD_eq_getD_getElem?]; exact e4
      have f8 : a.tmps[8]?.getD undef = .slice a8 ms.length c8 := by rw [← Array.getD_eq_getD_getElem?]; exact e8
      have f12 : a.tmps[12]?.getD undef = .slice a12 cs.length c12 := by rw [← Array.getD_eq_getD_getElem?]; exact e12
      rw [k8] at h2
      rw [k12] at h3
      have HK := Lib.hid hK
      have H2 := Lib.hid h2
      have H3 := Lib.hid h3
      clear hK ev hd h1 h2 h3 k8 k12
      go_simp
      exact HK.out _ _ (fun h => by cases h) hJ ⟨_, _, _, rfl, rfl, H2.out, H3.out⟩ (Ext.refl _ _)
  case fin =>
    intro u w2 hJ hG
    obtain ⟨x, y, z, h1, rfl, h3, h4⟩ : (Fact.agg3 (T := 25) (.is (.int .i64 L)) (.row wz.heap.size 2 (by decide) 1 ms.length (ms.map (Value.int .i64))) (.row wz.heap.size 3 (by decide) 1 cs.length (cs.map (Value.int .i64)))).holds (u 13) w2 := hG 10 _ rfl
    obtain ⟨a8, c8, rfl, -⟩ := owns_news h3
    obtain ⟨a12, c12, rfl, -⟩ := owns_news h4
    have HG3 := Lib.hid h3
    have HG4 := Lib.hid h4
    have zl : w.heap.size + 1 < wz.heap.size := by omega
    have b0 := (hJ.cell (p := ⟨w.heap.size + 1, 0, none⟩) zl).trans d0
    have b1 := (hJ.cell (p := ⟨w.heap.size + 1, 1, none⟩) zl).trans d1
    have b2 := (hJ.cell (p := ⟨w.heap.size + 1, 2, none⟩) zl).trans d2
    have r0 := (hJ.frozen (p := ⟨w.heap.size + 1, 0, none⟩) zl).trans q0
    have r1 := (hJ.frozen (p := ⟨w.heap.size + 1, 1, none⟩) zl).trans q1
    have r2 := (hJ.frozen (p := ⟨w.heap.size + 1, 2, none⟩) zl).trans q2
    have HJ := Lib.hid hJ
    clear hG h3 h4 d0 d1 d2 q0 q1 q2 f0 f1 f2 hJ
    simp only [mixFrame, mixL, dstsOf, List.take_succ_cons, List.take_zero, List.filterMap_cons, List.filterMap_nil, List.contains_cons, List.contains_nil, Nat.reduceBEq, Bool.or_false, Bool.false_or, Bool.or_true, Bool.true_or, if_true, if_false, Bool.false_eq_true, Nat.reduceAdd, Nat.zero_add, List.drop_succ_cons, List.drop_zero]
    go_wp2
    have t0 : ∀ j v, [Value.int .i64 L, .slice a8 ms.length c8, .slice a12 cs.length c12][j]? = some v → (((w2.setCell ⟨w.heap.size + 1, 0, none⟩ (.int .i64 L)).setCell ⟨w.heap.size + 1, 1, none⟩ (.slice a8 ms.length c8)).setCell ⟨w.heap.size + 1, 2, none⟩ (.slice a12 cs.length c12)).cell? ⟨w.heap.size + 1, j, none⟩ = some v :=
      three_at (by rw [World.cell?_setCell_other _ _ _ _ (by intro e; simp at e), World.cell?_setCell_other _ _ _ _ (by intro e; simp at e)]; exact World.cell?_setCell_same _ _ _ b0)
        (by rw [World.cell?_setCell_other _ _ _ _ (by intro e; simp at e)]; exact World.cell?_setCell_same _ _ _ (by rw [World.cell?_setCell_other _ _ _ _ (by intro e; simp at e)]; exact b1))
        (World.cell?_setCell_same _ _ _ (by rw [World.cell?_setCell_other _ _ _ _ (by intro e; simp at e), World.cell?_setCell_other _ _ _ _ (by intro e; simp at e)]; exact b2))
    refine bodyPost_ret (results_c rfl rfl (run_loadVar_many _ Try.underlying25 rfl (by kernel_rfl) t0)) rfl ⟨_, _, rfl, ?_, ?_, ?_⟩
    · exact owns_base (owns_heap HG3.out fun k hk => by have := (HG3.out.lt k hk).1; rw [heap_setCell_ne _ _ _ (by show k ≠ w.heap.size + 1; omega), heap_setCell_ne _ _ _ (by show k ≠ w.heap.size + 1; omega), heap_setCell_ne _ _ _ (by show k ≠ w.heap.size + 1; omega)]) (by omega)
    · exact owns_base (owns_heap HG4.out fun k hk => by have := (HG4.out.lt k hk).1; rw [heap_setCell_ne _ _ _ (by show k ≠ w.heap.size + 1; omega), heap_setCell_ne _ _ _ (by show k ≠ w.heap.size + 1; omega), heap_setCell_ne _ _ _ (by show k ≠ w.heap.size + 1; omega)]) (by omega)
    · exact (((below_via HJ.out HS.out (by omega)).setCell (by show w.heap.size ≤ w.heap.size + 1; omega) _).setCell (by show w.heap.size ≤ w.heap.size + 1; omega) _).setCell (by show w.heap.size ≤ w.heap.size + 1; omega) _
end Go.Proofs.Ytbmibaafkgleeaa
