/- Walks of index.Twin and of spoil. -/
import Derived.Test.YtbmibaafkgleeaaIdxFns
namespace Go.Proofs.Ytbmibaafkgleeaa
open Go.RowKit
set_option linter.unusedVariables false
set_option linter.unusedSimpArgs false

set_option maxHeartbeats 1000000 in
theorem Twin_ix (L : Int) (ma ca : Option Addr) (mc cc : Nat) (ms cs : List Int) (w : World) (hm : IsRow .i64 w ma ms) (hc : IsRow .i64 w ca cs) (hlm : ms.length ≤ 100000) (hlc : cs.length ≤ 100000) :
    Calls Try.prog 40 #[ixV L ma ms.length mc ca cs.length cc] w (FreshIx w L ms cs) := by
  have HM := Lib.hid hm
  have HC := Lib.hid hc
  clear hm hc
  go_enter Try.func40, Try.ntmps40
  go_wp2
  have hS : Below w.heap.size w ((w.alloc (.cells #[.int .i64 L, .slice ma ms.length mc, .slice ca cs.length cc] 25)).alloc (.cells #[.int .i64 0, .slice none 0 0, .slice none 0 0] 25)) := ((Below.refl _ w).alloc (Nat.le_refl _) _).alloc (by simp) _
  have HS := Lib.hid hS.drew
  have HS0 := Lib.hid hS
  clear hS
  have e0 : IsRow .i64 (((w.alloc (.cells #[.int .i64 L, .slice ma ms.length mc, .slice ca cs.length cc] 25)).alloc (.cells #[.int .i64 0, .slice none 0 0, .slice none 0 0] 25)).drew) ma ms := HM.out.below HS.out
  generalize hw1 : (((w.alloc (.cells #[.int .i64 L, .slice ma ms.length mc, .slice ca cs.length cc] 25)).alloc (.cells #[.int .i64 0, .slice none 0 0, .slice none 0 0] 25))) = wz at *
  have s0 : wz.cell? ⟨w.heap.size, 0, none⟩ = some (.int .i64 L) := by rw [← hw1]; ((try simp (disch := first | omega | (simp only [szW] <;> omega) | fail) only [ceW]) <;> rfl)
  have s1 : wz.cell? ⟨w.heap.size, 1, none⟩ = some (.slice ma ms.length mc) := by rw [← hw1]; ((try simp (disch := first | omega | (simp only [szW] <;> omega) | fail) only [ceW]) <;> rfl)
  have s2 : wz.cell? ⟨w.heap.size, 2, none⟩ = some (.slice ca cs.length cc) := by rw [← hw1]; ((try simp (disch := first | omega | (simp only [szW] <;> omega) | fail) only [ceW]) <;> rfl)
  have p1 : wz.frozen? ⟨w.heap.size, 1, none⟩ = false := by rw [← hw1]; ((try simp (disch := first | omega | (simp only [szW] <;> omega) | fail) only [ceW]) <;> rfl)
  have p2 : wz.frozen? ⟨w.heap.size, 2, none⟩ = false := by rw [← hw1]; ((try simp (disch := first | omega | (simp only [szW] <;> omega) | fail) only [ceW]) <;> rfl)
  have f0 : wz.cell? ⟨w.heap.size + 1, 0, none⟩ = some (.int .i64 0) := by rw [← hw1]; ((try simp (disch := first | omega | (simp only [szW] <;> omega) | fail) only [ceW]) <;> rfl)
  have f1 : wz.cell? ⟨w.heap.size + 1, 1, none⟩ = some (.slice none 0 0) := by rw [← hw1]; ((try simp (disch := first | omega | (simp only [szW] <;> omega) | fail) only [ceW]) <;> rfl)
  have f2 : wz.cell? ⟨w.heap.size + 1, 2, none⟩ = some (.slice none 0 0) := by rw [← hw1]; ((try simp (disch := first | omega | (simp only [szW] <;> omega) | fail) only [ceW]) <;> rfl)
  have q0 : wz.frozen? ⟨w.heap.size + 1, 0, none⟩ = false := by rw [← hw1]; ((try simp (disch := first | omega | (simp only [szW] <;> omega) | fail) only [ceW]) <;> rfl)
  have q1 : wz.frozen? ⟨w.heap.size + 1, 1, none⟩ = false := by rw [← hw1]; ((try simp (disch := first | omega | (simp only [szW] <;> omega) | fail) only [ceW]) <;> rfl)
  have q2 : wz.frozen? ⟨w.heap.size + 1, 2, none⟩ = false := by rw [← hw1]; ((try simp (disch := first | omega | (simp only [szW] <;> omega) | fail) only [ceW]) <;> rfl)
  have fz : w.heap.size + 2 ≤ wz.heap.size := by
    rw [← hw1]; simp
  clear hw1
  have ez : wz.drew.heap.size = wz.heap.size := rfl
  have KP := Lib.hid (fun (W : World) (hb : Below wz.heap.size wz W) => (⟨(hb.cell (p := ⟨w.heap.size, 0, none⟩) (by show w.heap.size < wz.heap.size; omega)).trans s0, (hb.cell (p := ⟨w.heap.size, 1, none⟩) (by show w.heap.size < wz.heap.size; omega)).trans s1, (hb.cell (p := ⟨w.heap.size, 2, none⟩) (by show w.heap.size < wz.heap.size; omega)).trans s2,
      (hb.frozen (p := ⟨w.heap.size, 1, none⟩) (by show w.heap.size < wz.heap.size; omega)).trans p1, (hb.frozen (p := ⟨w.heap.size, 2, none⟩) (by show w.heap.size < wz.heap.size; omega)).trans p2,
      (hb.cell (p := ⟨w.heap.size + 1, 0, none⟩) (by show w.heap.size + 1 < wz.heap.size; omega)).trans f0, (hb.cell (p := ⟨w.heap.size + 1, 1, none⟩) (by show w.heap.size + 1 < wz.heap.size; omega)).trans f1, (hb.cell (p := ⟨w.heap.size + 1, 2, none⟩) (by show w.heap.size + 1 < wz.heap.size; omega)).trans f2,
      (hb.frozen (p := ⟨w.heap.size + 1, 0, none⟩) (by show w.heap.size + 1 < wz.heap.size; omega)).trans q0, (hb.frozen (p := ⟨w.heap.size + 1, 1, none⟩) (by show w.heap.size + 1 < wz.heap.size; omega)).trans q1, (hb.frozen (p := ⟨w.heap.size + 1, 2, none⟩) (by show w.heap.size + 1 < wz.heap.size; omega)).trans q2⟩ :
      W.cell? ⟨w.heap.size, 0, none⟩ = some (.int .i64 L) ∧ W.cell? ⟨w.heap.size, 1, none⟩ = some (.slice ma ms.length mc) ∧ W.cell? ⟨w.heap.size, 2, none⟩ = some (.slice ca cs.length cc) ∧
      W.frozen? ⟨w.heap.size, 1, none⟩ = false ∧ W.frozen? ⟨w.heap.size, 2, none⟩ = false ∧
      W.cell? ⟨w.heap.size + 1, 0, none⟩ = some (.int .i64 0) ∧ W.cell? ⟨w.heap.size + 1, 1, none⟩ = some (.slice none 0 0) ∧ W.cell? ⟨w.heap.size + 1, 2, none⟩ = some (.slice none 0 0) ∧
      W.frozen? ⟨w.heap.size + 1, 0, none⟩ = false ∧ W.frozen? ⟨w.heap.size + 1, 1, none⟩ = false ∧ W.frozen? ⟨w.heap.size + 1, 2, none⟩ = false))
  go_region_law (first
    | (go_simp; go_at_call 74; refine (Clone_int64 ma mc ms _ e0 hlm).mono ?_; rintro e w1 ⟨v1, rfl, ho1, hb1⟩; obtain ⟨ao1, cc1, rfl, hn1, -⟩ := owns_news ho1
       have hb1z : Below wz.heap.size wz w1 := below_via hb1 (Below.refl _ _).drew (by omega)
       obtain ⟨g0, g1, g2, g3, g4, g5, g6, g7, g8, g9, g10⟩ := KP.out _ hb1z
       have hz1 := hb1z.size)
    | (go_simp; go_at_call 75; refine (Clone_int ca cc cs _ (HC.out.below (HS.out.trans (hb1.mono HS.out.size))) hlc).mono ?_; rintro e w2 ⟨v2, rfl, ho2, hb2⟩; obtain ⟨ao2, cc2, rfl, hn2, -⟩ := owns_news ho2
       have hb2z : Below wz.heap.size wz w2 := below_via hb2 hb1z (by omega)
       obtain ⟨k0, k1, k2, k3, k4, k5, k6, k7, k8, k9, k10⟩ := KP.out _ hb2z))
  all_goals
    have hk1 := ho1.lt
    have hk2 := ho2.lt
    have hz2 := hb2.size
    clear s0 s1 s2 p1 p2 f0 f1 f2 q0 q1 q2 g0 g1 g2 g3 g4 g5 g6 g7 g8 g9 g10
    go_wp2
    have e1 : ((w2.setCell ⟨w.heap.size, 1, none⟩ (.slice ao1 ms.length cc1)).setCell ⟨w.heap.size, 2, none⟩ (.slice ao2 cs.length cc2)).cell? ⟨w.heap.size, 0, none⟩ = some (.int .i64 L) := by
      rw [World.cell?_setCell_other _ _ _ _ (by intro e; simp at e), World.cell?_setCell_other _ _ _ _ (by intro e; simp at e)]; exact k0
    have e2 : ((w2.setCell ⟨w.heap.size, 1, none⟩ (.slice ao1 ms.length cc1)).setCell ⟨w.heap.size, 2, none⟩ (.slice ao2 cs.length cc2)).cell? ⟨w.heap.size, 1, none⟩ = some (.slice ao1 ms.length cc1) := by
      rw [World.cell?_setCell_other _ _ _ _ (by intro e; simp at e), World.cell?_setCell_same _ _ _ k1]
    have e3 : ((w2.setCell ⟨w.heap.size, 1, none⟩ (.slice ao1 ms.length cc1)).setCell ⟨w.heap.size, 2, none⟩ (.slice ao2 cs.length cc2)).cell? ⟨w.heap.size, 2, none⟩ = some (.slice ao2 cs.length cc2) := by
      refine World.cell?_setCell_same _ _ _ (u := .slice ca cs.length cc) ?_
      rw [World.cell?_setCell_other _ _ _ _ (by intro e; simp at e)]; exact k2
    generalize hwy : ((w2.setCell ⟨w.heap.size, 1, none⟩ (.slice ao1 ms.length cc1)).setCell ⟨w.heap.size, 2, none⟩ (.slice ao2 cs.length cc2)) = wy at *
    have y0 : wy.cell? ⟨w.heap.size + 1, 0, none⟩ = some (.int .i64 0) := by rw [← hwy]; (first | (with_reducible assumption) | ((simp only [World.frozen?_setCell, World.frozen?_drew, World.frozen?_drewN]) <;> (with_reducible assumption)) | ((repeat (first | (with_reducible assumption) | (with_reducible refine World.cell?_setCell_same _ _ _ (by with_reducible assumption)) | (rw [World.cell?_setCell_other _ _ _ _ (by intro e; simp at e; done)]) | (with_reducible refine cell_setCell_block ?_ ?_) | (rw [World.cell?_drew]) | (rw [World.cell?_drewN]) | (dsimp only; omega))); done) | (first | (with_reducible assumption) | ((try simp (disch := first | omega | (simp only [szW] <;> omega) | fail) only [ceW]) <;> first | (with_reducible assumption) | rfl)))
    have y1 : wy.cell? ⟨w.heap.size + 1, 1, none⟩ = some (.slice none 0 0) := by rw [← hwy]; (first | (with_reducible assumption) | ((simp only [World.frozen?_setCell, World.frozen?_drew, World.frozen?_drewN]) <;> (with_reducible assumption)) | ((repeat (first | (with_reducible assumption) | (with_reducible refine World.cell?_setCell_same _ _ _ (by with_reducible assumption)) | (rw [World.cell?_setCell_other _ _ _ _ (by intro e; simp at e; done)]) | (with_reducible refine cell_setCell_block ?_ ?_) | (rw [World.cell?_drew]) | (rw [World.cell?_drewN]) | (dsimp only; omega))); done) | (first | (with_reducible assumption) | ((try simp (disch := first | omega | (simp only [szW] <;> omega) | fail) only [ceW]) <;> first | (with_reducible assumption) | rfl)))
    have y2 : wy.cell? ⟨w.heap.size + 1, 2, none⟩ = some (.slice none 0 0) := by rw [← hwy]; (first | (with_reducible assumption) | ((simp only [World.frozen?_setCell, World.frozen?_drew, World.frozen?_drewN]) <;> (with_reducible assumption)) | ((repeat (first | (with_reducible assumption) | (with_reducible refine World.cell?_setCell_same _ _ _ (by with_reducible assumption)) | (rw [World.cell?_setCell_other _ _ _ _ (by intro e; simp at e; done)]) | (with_reducible refine cell_setCell_block ?_ ?_) | (rw [World.cell?_drew]) | (rw [World.cell?_drewN]) | (dsimp only; omega))); done) | (first | (with_reducible assumption) | ((try simp (disch := first | omega | (simp only [szW] <;> omega) | fail) only [ceW]) <;> first | (with_reducible assumption) | rfl)))
    have z0 : wy.frozen? ⟨w.heap.size + 1, 0, none⟩ = false := by rw [← hwy]; (first | (with_reducible assumption) | ((simp only [World.frozen?_setCell, World.frozen?_drew, World.frozen?_drewN]) <;> (with_reducible assumption)) | ((repeat (first | (with_reducible assumption) | (with_reducible refine World.cell?_setCell_same _ _ _ (by with_reducible assumption)) | (rw [World.cell?_setCell_other _ _ _ _ (by intro e; simp at e; done)]) | (with_reducible refine cell_setCell_block ?_ ?_) | (rw [World.cell?_drew]) | (rw [World.cell?_drewN]) | (dsimp only; omega))); done) | (first | (with_reducible assumption) | ((try simp (disch := first | omega | (simp only [szW] <;> omega) | fail) only [ceW]) <;> first | (with_reducible assumption) | rfl)))
    have z1 : wy.frozen? ⟨w.heap.size + 1, 1, none⟩ = false := by rw [← hwy]; (first | (with_reducible assumption) | ((simp only [World.frozen?_setCell, World.frozen?_drew, World.frozen?_drewN]) <;> (with_reducible assumption)) | ((repeat (first | (with_reducible assumption) | (with_reducible refine World.cell?_setCell_same _ _ _ (by with_reducible assumption)) | (rw [World.cell?_setCell_other _ _ _ _ (by intro e; simp at e; done)]) | (with_reducible refine cell_setCell_block ?_ ?_) | (rw [World.cell?_drew]) | (rw [World.cell?_drewN]) | (dsimp only; omega))); done) | (first | (with_reducible assumption) | ((try simp (disch := first | omega | (simp only [szW] <;> omega) | fail) only [ceW]) <;> first | (with_reducible assumption) | rfl)))
    have z2 : wy.frozen? ⟨w.heap.size + 1, 2, none⟩ = false := by rw [← hwy]; (first | (with_reducible assumption) | ((simp only [World.frozen?_setCell, World.frozen?_drew, World.frozen?_drewN]) <;> (with_reducible assumption)) | ((repeat (first | (with_reducible assumption) | (with_reducible refine World.cell?_setCell_same _ _ _ (by with_reducible assumption)) | (rw [World.cell?_setCell_other _ _ _ _ (by intro e; simp at e; done)]) | (with_reducible refine cell_setCell_block ?_ ?_) | (rw [World.cell?_drew]) | (rw [World.cell?_drewN]) | (dsimp only; omega))); done) | (first | (with_reducible assumption) | ((try simp (disch := first | omega | (simp only [szW] <;> omega) | fail) only [ceW]) <;> first | (with_reducible assumption) | rfl)))
    have o1 := owns_heap (W' := wy) (owns_base (owns_below ho1 hb2) (base' := w.heap.size) (by rw [ez]; omega)) (fun k hk => by
      have h := hk1 k hk
      rw [ez] at h
      rw [← hwy, heap_setCell_ne _ _ _ (by show k ≠ w.heap.size; omega), heap_setCell_ne _ _ _ (by show k ≠ w.heap.size; omega)])
    have o2 := owns_heap (W' := wy) (owns_base ho2 (base' := w.heap.size) (by omega)) (fun k hk => by
      have h := hk2 k hk
      rw [← hwy, heap_setCell_ne _ _ _ (by show k ≠ w.heap.size; omega), heap_setCell_ne _ _ _ (by show k ≠ w.heap.size; omega)])
    have hby : Below w.heap.size w wy := by
      rw [← hwy]
      exact ((below_via hb2z HS0.out (by omega)).setCell (by show w.heap.size ≤ w.heap.size; omega) _).setCell (by show w.heap.size ≤ w.heap.size; omega) _
    have O1 := Lib.hid o1
    have O2 := Lib.hid o2
    have BY := Lib.hid hby
    have HK1 := Lib.hid hk1
    have HK2 := Lib.hid hk2
    clear o1 o2 hby hk1 hk2 hwy k0 k1 k2 k3 k4 k5 k6 k7 k8 k9 k10 ho1 ho2 hb1 hb2 hb1z hb2z e0
    go_wp2
    have t0 : ∀ j v, [Value.int .i64 L, .slice ao1 ms.length cc1, .slice ao2 cs.length cc2][j]? = some v → (((wy.setCell ⟨w.heap.size + 1, 0, none⟩ (.int .i64 L)).setCell ⟨w.heap.size + 1, 1, none⟩ (.slice ao1 ms.length cc1)).setCell ⟨w.heap.size + 1, 2, none⟩ (.slice ao2 cs.length cc2)).cell? ⟨w.heap.size + 1, j, none⟩ = some v :=
      three_at (by rw [World.cell?_setCell_other _ _ _ _ (by intro e; simp at e), World.cell?_setCell_other _ _ _ _ (by intro e; simp at e)]; exact World.cell?_setCell_same _ _ _ y0)
        (by rw [World.cell?_setCell_other _ _ _ _ (by intro e; simp at e)]; exact World.cell?_setCell_same _ _ _ (by rw [World.cell?_setCell_other _ _ _ _ (by intro e; simp at e)]; exact y1))
        (World.cell?_setCell_same _ _ _ (by rw [World.cell?_setCell_other _ _ _ _ (by intro e; simp at e), World.cell?_setCell_other _ _ _ _ (by intro e; simp at e)]; exact y2))
    refine bodyPost_ret (results_c rfl rfl (run_loadVar_many _ Try.underlying25 rfl (by kernel_rfl) t0)) rfl ⟨_, _, rfl, ?_, ?_, ?_⟩
    · exact owns_heap O1.out fun k hk => by have := HK1.out k hk; rw [ez] at this; rw [heap_setCell_ne _ _ _ (by show k ≠ w.heap.size + 1; omega), heap_setCell_ne _ _ _ (by show k ≠ w.heap.size + 1; omega), heap_setCell_ne _ _ _ (by show k ≠ w.heap.size + 1; omega)]
    · exact owns_heap O2.out fun k hk => by have := HK2.out k hk; rw [heap_setCell_ne _ _ _ (by show k ≠ w.heap.size + 1; omega), heap_setCell_ne _ _ _ (by show k ≠ w.heap.size + 1; omega), heap_setCell_ne _ _ _ (by show k ≠ w.heap.size + 1; omega)]
    · exact ((BY.out.setCell (by show w.heap.size ≤ w.heap.size + 1; omega) _).setCell (by show w.heap.size ≤ w.heap.size + 1; omega) _).setCell (by show w.heap.size ≤ w.heap.size + 1; omega) _
end Go.Proofs.Ytbmibaafkgleeaa
