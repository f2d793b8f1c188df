/- Merged: HeapDep, HeapPath. -/
import Derived.Test.YtbmibaafkgleeaaHeapUF
import Derived.Laws.EntriesVeiled
namespace Go.Proofs.Ytbmibaafkgleeaa
set_option linter.unusedVariables false
set_option linter.unusedSimpArgs false
section
open Go.RowKit Go.Shelf
attribute [local go_sem] Oper.semAt_some

/-- what holds at each round of Depth -/
structure DepI (n B : Nat) (w : World) (k : Nat) (W : World) : Prop where
  box : W.cell? ⟨B, 0, none⟩ = some (.int .i64 ((k : Int) - 1))
  fz : W.frozen? ⟨B, 0, none⟩ = false
  bel : Below B w W

theorem rows_ps {n : Nat} : ∀ y ∈ upRows n, y.size = 1 := by
  intro y hy
  simp only [upRows, List.mem_map] at hy
  obtain ⟨k, _, rfl⟩ := hy
  rfl

set_option maxHeartbeats 400000 in
theorem Depth_any (l n : Int) (w : World) :
    Calls Try.prog 105 #[.int .i64 l, .int .i64 n] w (Gives w (.tuple #[.int .i64 (dpR l n), .int .i64 (ndE l n)])) := by
  by_cases h : ndE l n = 0
  · obtain ⟨h1, h2, h3, h4⟩ := ndE_zero h
    obtain ⟨N, rfl⟩ := Int.eq_ofNat_of_zero_le (show 0 ≤ n by omega)
    have hb := (pow_bdI l h2).2
    have hr : dpR l N = (N.log2 : Nat) := by rw [dpR, h]; rfl
    have hw := fun w => node_any l N w
    rw [h] at hw
    rw [h, hr]
    have hlog : N.log2 < 14 := log2_lt_of (by omega) (by omega)
    have HW := Lib.hid hw
    have hN : N < 16384 := by omega
    have hN1 : 1 ≤ N := by omega
    clear hw h hr h4 hb h3 h1 h2
    refine calls_of_wp_m Try.func105 rfl ?_
    simp only [Try.ntmps105, List.size_toArray, List.length_cons, List.length_nil, Nat.reduceAdd, Nat.reduceSub, Array.replicate_succ, Array.replicate_zero, List.push_toArray, List.append_toArray, List.nil_append, List.cons_append]
    go_wp2_with fail
    refine (HW.out _).mono ?_
    rintro e w' ⟨rfl, rfl⟩
    go_wp2_with fail
    refine (up_ok N _).mono ?_
    rintro e w2 ⟨rfl, rfl⟩
    go_wp2
    refine wp_range_s (xs := upRows N) (Kp := fun W W' => W'.heap[w.heap.size + 1]? = W.heap[w.heap.size + 1]?) (Sw := UpSw (w.heap.size + 1)) rfl (enters_of Try.func120 (by kernel_rfl) rfl)
      (up1_iter N hN1 hN (w.heap.size + 1) _ ?cbox ?cfz) UpSw.keeps (Below.refl _ _) (fun _ => rfl) (fun h k => k.trans h) ?kb rows_ps
      (DepI N w.heap.size w) (fun _ _ => False) ?hI (fun _ _ _ h _ => h) ?hIS (fun _ _ _ h _ => h) ?h0 ?round ?done (fun _ _ _ _ h _ => h.elim)
    case cbox => ((try simp (disch := first | omega | (simp only [szW] <;> omega) | fail) only [ceW]) <;> rfl)
    case cfz => ((try simp (disch := first | omega | (simp only [szW] <;> omega) | fail) only [ceW]) <;> rfl)
    case kb =>
      intro W l o o' hl _ _
      simp at hl
      exact World.putObj_heap_other (by omega)
    case hI =>
      intro k W W' hi hc
      exact ⟨hc.cell hi.box, hc.frozen hi.box hi.fz, hc.below (by simp; omega) hi.bel⟩
    case hIS =>
      rintro k W W' hi ⟨v, rfl⟩
      exact ⟨by rw [World.cell?_setCell_other _ _ _ _ (by intro e; simp at e)]; exact hi.box, by rw [World.frozen?_setCell]; exact hi.fz, hi.bel.setCell (by show w.heap.size ≤ w.heap.size + 1; omega) _⟩
    case h0 =>
      exact ⟨by ((try simp (disch := first | omega | (simp only [szW] <;> omega) | fail) only [ceW]) <;> rfl), by ((try simp (disch := first | omega | (simp only [szW] <;> omega) | fail) only [ceW]) <;> rfl), ((Below.refl _ w).alloc (Nat.le_refl _) _).alloc (by simp) _⟩
    case round =>
      intro l k W hl hk hi
      rw [upRows_length] at hk
      rw [upRows_get hN1 (by omega)]
      gi_wp2
      refine ⟨rfl, ?_⟩
      intro W2 hi2
      obtain ⟨hbox, hfz, hbel⟩ := hi2
      have HB := Lib.hid hbel
      clear hbel hi
      gi_wp2
      refine ⟨KeepsOthers.setCell _ _ _, Below.heap_setCell _ _ _ _ (by show w.heap.size + 1 ≠ w.heap.size; omega), ⟨?_, by rw [World.frozen?_setCell]; exact hfz, HB.out.setCell (Nat.le_refl _) _⟩⟩
      rw [World.cell?_setCell_same _ _ _ hbox]
      congr 2
      omega
    case done =>
      intro D W hD hi hK
      obtain ⟨hbox, hfz, hbel⟩ := hi
      rw [upRows_length] at hbox
      simp at hD
      have hcalm := Calm.putObj (B := w.heap.size) (.deferred none) (by omega) hK rfl
      go_wp2
      refine postM_one hK (results_tmp2 rfl _ _ _) ⟨?_, hcalm.below (Nat.le_refl _) hbel⟩
      simp
  · have h2 := ndE_no h
    have hr : dpR l n = 0 := by rw [dpR, h2]; rfl
    rw [hr, h2]
    have hw := fun w => node_any l n w
    rw [h2] at hw
    have HW := Lib.hid hw
    clear h h2 hw hr
    refine calls_of_wp_m Try.func105 rfl ?_
    simp only [Try.ntmps105, List.size_toArray, List.length_cons, List.length_nil, Nat.reduceAdd, Nat.reduceSub, Array.replicate_succ, Array.replicate_zero, List.push_toArray, List.append_toArray, List.nil_append, List.cons_append]
    go_wp2_with fail
    refine (HW.out _).mono ?_
    rintro e w' ⟨rfl, rfl⟩
    go_wp2
    exact postM_none (results_tmp2 rfl _ _ _) ⟨rfl, Below.refl _ _⟩
end

section
open Go.RowKit Go.Shelf
attribute [local go_sem] Oper.semAt_some

end
end Go.Proofs.Ytbmibaafkgleeaa
