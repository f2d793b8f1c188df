/- The walk of the reference's Twin. -/
import Derived.Test.YtonmgmhkejbikaaTabTwin
namespace Go.Proofs.Ytonmgmhkejbikaa
open Go.RowKit Go.Shelf
set_option linter.unusedVariables false
set_option linter.unusedSimpArgs false

theorem ints_news {w : World} {ga : Option Addr} {xs : List Int} (h : IsInts w ga xs) : ∀ ad, ga = some ad → ∀ j u, (xs.map (Value.int .i64))[j]? = some u → w.cell? (ad.add j) = some u := by
  rintro ad rfl j u hj
  rw [List.getElem?_map] at hj
  cases hx : xs[j]? with
  | none => rw [hx] at hj; cases hj
  | some v =>
    rw [hx] at hj
    have hjl := (List.getElem?_eq_some_iff.1 hx).1
    obtain ⟨b, o, h1, _, hc⟩ := h j hjl
    cases h1
    rw [Addr.add_lit, hc j hjl, List.getD_eq_getElem?_getD, hx]
    exact hj
theorem ints_none {w : World} {ga : Option Addr} {xs : List Int} (h : IsInts w ga xs) (hn : ga = none) : xs.length = 0 := by
  cases xs with
  | nil => rfl
  | cons x t => obtain ⟨b, o, h1, _⟩ := h 0 (by simp); rw [hn] at h1; cases h1
/-- an empty row that was just laid -/
theorem owns_empty {w : World} {base k : Nat} {t : TypeId} (h : w.heap[k]? = some (.cells #[] t)) (hb : base ≤ k) : w.ownsRow base t 1 (.slice (some ⟨k, 0, none⟩) 0 0) 0 [] :=
  ⟨rfl, .inr ⟨k, 0, #[], rfl, hb, h, Nat.le_refl _, Nat.zero_le _, rfl, rfl⟩⟩

set_option maxHeartbeats 1000000 in
theorem Twin14_ok (ga aa : Option Addr) (gc ac : Nat) (gs ps : List Int) (w : World) (hg : IsInts w ga gs) (hp : IsInts w aa ps) (hlg : gs.length ≤ 65536) (hlp : ps.length ≤ 65536) (hgn : ga = none → gc = 0) (han : aa = none → ac = 0) :
    Calls Try.prog 9 #[tabV ga gs.length gc aa ps.length ac] w (FreshTab w gs ps) := by
  have HG := Lib.hid hg
  have HP := Lib.hid hp
  clear hg hp
  go_enter Try.func9, Try.ntmps9
  go_wp2
  have hS : Below w.heap.size w ((w.alloc (.cells #[.slice ga gs.length gc, .slice aa ps.length ac] 24)).alloc (.cells #[.slice none 0 0, .slice none 0 0] 24)) := ((Below.refl _ w).alloc (Nat.le_refl _) _).alloc (by simp) _
  have HS0 := Lib.hid hS
  have HS := Lib.hid hS.drew
  clear hS
  generalize hw1 : (((w.alloc (.cells #[.slice ga gs.length gc, .slice aa ps.length ac] 24)).alloc (.cells #[.slice none 0 0, .slice none 0 0] 24))) = wz at *
  have f0 : wz.cell? ⟨w.heap.size, 0, none⟩ = some (.slice ga gs.length gc) := by rw [← hw1]; ((try simp (disch := first | omega | (simp only [World.size_alloc] <;> omega) | fail) only [World.cell?_alloc_past, World.cell?_alloc_at, World.frozen?_alloc_past, World.frozen?_alloc_at]) <;> rfl)
  have f1 : wz.cell? ⟨w.heap.size, 1, none⟩ = some (.slice aa ps.length ac) := by rw [← hw1]; ((try simp (disch := first | omega | (simp only [World.size_alloc] <;> omega) | fail) only [World.cell?_alloc_past, World.cell?_alloc_at, World.frozen?_alloc_past, World.frozen?_alloc_at]) <;> rfl)
  have f2 : wz.cell? ⟨w.heap.size + 1, 0, none⟩ = some (.slice none 0 0) := by rw [← hw1]; ((try simp (disch := first | omega | (simp only [World.size_alloc] <;> omega) | fail) only [World.cell?_alloc_past, World.cell?_alloc_at, World.frozen?_alloc_past, World.frozen?_alloc_at]) <;> rfl)
  have f3 : wz.cell? ⟨w.heap.size + 1, 1, none⟩ = some (.slice none 0 0) := by rw [← hw1]; ((try simp (disch := first | omega | (simp only [World.size_alloc] <;> omega) | fail) only [World.cell?_alloc_past, World.cell?_alloc_at, World.frozen?_alloc_past, World.frozen?_alloc_at]) <;> rfl)
  have f4 : wz.frozen? ⟨w.heap.size + 1, 0, none⟩ = false := by rw [← hw1]; ((try simp (disch := first | omega | (simp only [World.size_alloc] <;> omega) | fail) only [World.cell?_alloc_past, World.cell?_alloc_at, World.frozen?_alloc_past, World.frozen?_alloc_at]) <;> rfl)
  have f5 : wz.frozen? ⟨w.heap.size + 1, 1, none⟩ = false := by rw [← hw1]; ((try simp (disch := first | omega | (simp only [World.size_alloc] <;> omega) | fail) only [World.cell?_alloc_past, World.cell?_alloc_at, World.frozen?_alloc_past, World.frozen?_alloc_at]) <;> rfl)
  have fz : w.heap.size + 2 ≤ wz.heap.size := by
    rw [← hw1]; simp
  clear hw1
  have ez : wz.drew.heap.size = wz.heap.size := rfl
  have fl : w.heap.size < wz.heap.size := by omega
  have fl1 : w.heap.size + 1 < wz.heap.size := by omega
  go_region_law (first
    | (refine step_append (.tmp 3) (.tmp 5) 22 3 (.int .i64 0) 1 8 Try.underlying22 info_int rfl (by decide) (by decide) wz.heap.size _ 0 [] ga gs.length gc (gs.map (Value.int .i64)) (owns_empty (by first | exact World.alloc_heap_new _ _ | exact (Below.heap_alloc _ _ _ (by simp)).trans (World.alloc_heap_new _ _) | (have h := World.alloc_heap_new (wz.alloc (.cells #[] 3)) (.cells #[] 3); rw [World.size_alloc] at h; exact h)) (by simp)) (by simp) (fun h => ⟨ints_none HG.out h, hgn h⟩) (ints_news (HG.out.below (by first | exact HS.out.alloc (by omega) _ | exact (HS.out.alloc (by omega) _).alloc (by simp; omega) _))) (oneCells _) (by omega) (by simp <;> omega) rfl rfl rfl rfl ?_
       intro v1 w1 ho1 hg1 hf1
       have hB1 : Below wz.heap.size wz w1 := Below.grown (by first | exact ((Below.refl _ wz).alloc (Nat.le_refl _) _).drew | exact (((Below.refl _ wz).alloc (Nat.le_refl _) _).alloc (by simp) _).drew) hg1 (by simp <;> omega) (by intro z hz; simp [Value.ownBlock] at hz; omega)
       obtain ⟨ao1, cc1, rfl, hn1, -⟩ := owns_news ho1
       have g1 : w1.cell? ⟨w.heap.size, 1, none⟩ = some (.slice aa ps.length ac) := (hB1.cell (p := ⟨w.heap.size, 1, none⟩) fl).trans f1
       have g2 : w1.cell? ⟨w.heap.size + 1, 0, none⟩ = some (.slice none 0 0) := (hB1.cell (p := ⟨w.heap.size + 1, 0, none⟩) fl1).trans f2
       have g3 : w1.cell? ⟨w.heap.size + 1, 1, none⟩ = some (.slice none 0 0) := (hB1.cell (p := ⟨w.heap.size + 1, 1, none⟩) fl1).trans f3
       have g4 : w1.frozen? ⟨w.heap.size + 1, 0, none⟩ = false := (hB1.frozen (p := ⟨w.heap.size + 1, 0, none⟩) fl1).trans f4
       have g5 : w1.frozen? ⟨w.heap.size + 1, 1, none⟩ = false := (hB1.frozen (p := ⟨w.heap.size + 1, 1, none⟩) fl1).trans f5
       simp only [Nat.zero_add, List.nil_append] at ho1 hf1
       have gz := hB1.size
       have gl : w.heap.size < w1.heap.size := by omega
       have gl1 : w.heap.size + 1 < w1.heap.size := by omega)
    | (refine step_append (.tmp 7) (.tmp 9) 22 3 (.int .i64 0) 1 8 Try.underlying22 info_int rfl (by decide) (by decide) wz.heap.size _ 0 [] aa ps.length ac (ps.map (Value.int .i64)) (owns_empty (by first | exact World.alloc_heap_new _ _ | (refine (hg1.block _ (by simp <;> omega) (by simp [Value.ownBlock] <;> omega)).trans ?_; (first | exact World.alloc_heap_new _ _ | exact (Below.heap_alloc _ _ _ (by simp)).trans (World.alloc_heap_new _ _) | (have h := World.alloc_heap_new (wz.alloc (.cells #[] 3)) (.cells #[] 3); rw [World.size_alloc] at h; exact h)))) (by first | exact gz | simp)) (by simp) (fun h => ⟨ints_none HP.out h, han h⟩) (ints_news (by first | exact HP.out.below (HS0.out.trans (hB1.mono (by omega))) | exact (HP.out.below (HS0.out.trans (hB1.mono (by omega)))).alloc _)) (oneCells _) (by omega) (by first | exact gz | (simp <;> omega)) rfl rfl rfl rfl ?_
       intro v2 w2 ho2 hg2 hf2
       have hB2 : Below wz.heap.size wz w2 := Below.grown (by first | exact hB1 | exact hB1.alloc gz _) hg2 (by first | exact gz | (simp <;> omega)) (by intro z hz; simp [Value.ownBlock] at hz; omega)
       obtain ⟨ao2, cc2, rfl, hn2, -⟩ := owns_news ho2
       have k2 : w2.cell? ⟨w.heap.size + 1, 0, none⟩ = some (.slice none 0 0) := (hB2.cell (p := ⟨w.heap.size + 1, 0, none⟩) fl1).trans f2
       have k3 : w2.cell? ⟨w.heap.size + 1, 1, none⟩ = some (.slice none 0 0) := (hB2.cell (p := ⟨w.heap.size + 1, 1, none⟩) fl1).trans f3
       have k4 : w2.frozen? ⟨w.heap.size + 1, 0, none⟩ = false := (hB2.frozen (p := ⟨w.heap.size + 1, 0, none⟩) fl1).trans f4
       have k5 : w2.frozen? ⟨w.heap.size + 1, 1, none⟩ = false := (hB2.frozen (p := ⟨w.heap.size + 1, 1, none⟩) fl1).trans f5
       simp only [Nat.zero_add, List.nil_append] at ho2 hf2)
    | (trace_state; fail))
  all_goals
    go_wp2
    have r1 : ((w2.setCell ⟨w.heap.size + 1, 0, none⟩ (.slice ao1 gs.length cc1)).setCell ⟨w.heap.size + 1, 1, none⟩ (.slice ao2 ps.length cc2)).cell? ⟨w.heap.size + 1, 0, none⟩ = some (.slice ao1 gs.length cc1) := by
      rw [World.cell?_setCell_other _ _ _ _ (by intro e; simp at e), World.cell?_setCell_same _ _ _ k2]
    have r2 : ((w2.setCell ⟨w.heap.size + 1, 0, none⟩ (.slice ao1 gs.length cc1)).setCell ⟨w.heap.size + 1, 1, none⟩ (.slice ao2 ps.length cc2)).cell? ⟨w.heap.size + 1, 1, none⟩ = some (.slice ao2 ps.length cc2) := by
      refine World.cell?_setCell_same _ _ _ (u := .slice none 0 0) ?_
      rw [World.cell?_setCell_other _ _ _ _ (by intro e; simp at e)]; exact k3
    have hk1 := ho1.lt
    have hk2 := ho2.lt
    have hz : ∀ k, (Value.slice ao1 gs.length cc1).ownBlock = some k → w2.heap[k]? = w1.heap[k]? ∧ ∀ l, (Value.slice ao2 ps.length cc2).ownBlock = some l → k ≠ l := by
      intro k hk
      have h1 := hk1 k hk
      rcases hf1 with e | e
      all_goals
        first
          | (rw [e] at hk; simp [Value.ownBlock] at hk)
          | (have h4 := e k hk; try simp at h4)
        refine ⟨?_, fun l hl => ?_⟩
        · rw [hg2.block k (by first | exact h1.2 | (simp <;> omega)) (by simp [Value.ownBlock] <;> omega)]
          try exact Below.heap_alloc _ _ _ h1.2
        · rcases hf2 with e2 | e2
          · rw [e2] at hl; simp [Value.ownBlock] at hl; omega
          · have h5 := e2 l hl; try simp at h5
            omega
    have o1 := owns_heap (W' := ((w2.setCell ⟨w.heap.size + 1, 0, none⟩ (.slice ao1 gs.length cc1)).setCell ⟨w.heap.size + 1, 1, none⟩ (.slice ao2 ps.length cc2))) (owns_base (owns_heap ho1 (fun k hk => (hz k hk).1)) (base' := w.heap.size) (by omega)) (fun k hk => by
      have h := hk1 k hk
      rw [heap_setCell_ne _ _ _ (by show k ≠ w.heap.size + 1; omega), heap_setCell_ne _ _ _ (by show k ≠ w.heap.size + 1; omega)])
    have o2 := owns_heap (W' := ((w2.setCell ⟨w.heap.size + 1, 0, none⟩ (.slice ao1 gs.length cc1)).setCell ⟨w.heap.size + 1, 1, none⟩ (.slice ao2 ps.length cc2))) (owns_base ho2 (base' := w.heap.size) (by omega)) (fun k hk => by
      have h := hk2 k hk
      rw [heap_setCell_ne _ _ _ (by show k ≠ w.heap.size + 1; omega), heap_setCell_ne _ _ _ (by show k ≠ w.heap.size + 1; omega)])
    have hbb : Below w.heap.size w ((w2.setCell ⟨w.heap.size + 1, 0, none⟩ (.slice ao1 gs.length cc1)).setCell ⟨w.heap.size + 1, 1, none⟩ (.slice ao2 ps.length cc2)) :=
      ((HS0.out.trans (hB2.mono (by omega))).setCell (by show w.heap.size ≤ w.heap.size + 1; omega) _).setCell (by show w.heap.size ≤ w.heap.size + 1; omega) _
    exact bodyPost_ret (results_c rfl rfl (run_loadVar_two Try.underlying24 rfl (by kernel_rfl) r1 r2)) rfl ⟨_, _, rfl, o1, o2, fun k l h1 h2 => (hz k h1).2 l h2, hbb⟩
end Go.Proofs.Ytonmgmhkejbikaa
