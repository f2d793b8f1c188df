/- Walks of slices.Clone and of Twin. -/
import Derived.Test.YtonmgmhkejbikaaTab
import Derived.BigRegion
import Derived.Lib.SliceRun
namespace Go.Proofs.Ytonmgmhkejbikaa
open Go.RowKit Go.Shelf
set_option linter.unusedVariables false
set_option linter.unusedSimpArgs false

theorem clone_ok (ga : Option Addr) (gc : Nat) (xs : List Int) (w : World) (hg : IsInts w ga xs) (hl : xs.length ≤ 65536) :
    Calls Try.prog 29 #[.slice ga xs.length gc] w (FreshInts w xs) := by
  have q22 : ∀ (w : World) (a : Option Addr) (n c n' c' : Nat), (binOp .eql 22 (.slice a n c) (.slice none n' c')).run Try.prog w = .ok (.bool a.isNone) w := fun w a n c n' c' => Lib.run_eql_slice_nil w _ _ a n c n' c' Try.underlying22
  have HG := Lib.hid hg
  clear hg
  cases ga with
  | none =>
    have hx : xs = [] := by
      cases xs with
      | nil => rfl
      | cons x t => obtain ⟨b, o, h, _⟩ := HG.out 0 (by simp); cases h
    subst hx
    go_enter Try.func29, Try.ntmps29
    go_wp2
    go_ret
    exact ⟨_, rfl, World.ownsRow_nil _ _ _ _, Below.refl _ _⟩
  | some a =>
    have hnews : ∀ ad, some a = some ad → ∀ j u, (xs.map (Value.int .i64))[j]? = some u → w.cell? (ad.add j) = some u := by
      rintro ad h j u hj
      cases h
      rw [List.getElem?_map] at hj
      cases hx : xs[j]? with
      | none => rw [hx] at hj; cases hj
      | some v =>
        rw [hx] at hj
        have hjl := (List.getElem?_eq_some_iff.1 hx).1
        obtain ⟨b, o, h, _, hc⟩ := HG.out j hjl
        cases h
        rw [Addr.add_lit, hc j hjl, List.getD_eq_getElem?_getD, hx]
        exact hj
    have HN := Lib.hid hnews
    clear hnews
    go_enter Try.func29, Try.ntmps29
    go_wp2_with (at_builtin; refine wpl_append (.tmp 5) (.tmp 6) 22 3 (.int .i64 0) 1 8 Try.underlying22 info_int rfl (by decide) (by decide) w.heap.size _ 0 [] (some a) xs.length gc (xs.map (Value.int .i64)) (World.ownsRow_made w #[] 0 (Nat.le_refl _) (Nat.zero_le _) rfl) (by simp) (fun h => by cases h) (fun ad h j u hj => Lib.cell?_alloc_some _ (HN.out ad h j u hj)) (oneCells _) (by omega) (by simp) rfl rfl rfl rfl ?_; intro v' w1 hown hgrow _)
    go_wp2
    go_ret
    refine ⟨v', rfl, by simpa using hown, ?_⟩
    exact ((Below.refl _ w).alloc (Nat.le_refl _) _).grown hgrow (by simp) (by intro k hk; simp [Value.ownBlock] at hk; omega)

theorem IsInts.alloc {w : World} {a : Option Addr} {xs : List Int} (h : IsInts w a xs) (ob : Obj) : IsInts (w.alloc ob) a xs := h.below ((Below.refl _ _).alloc (Nat.le_refl _) _)
/-- what Twin answers: both rows anew -/
def FreshTab (w : World) (gs ps : List Int) (e : Ending) (w' : World) : Prop :=
  ∃ v u, e = .returned (.agg #[v, u]) ∧ w'.ownsRow w.heap.size 3 1 v gs.length (gs.map (Value.int .i64)) ∧ w'.ownsRow w.heap.size 3 1 u ps.length (ps.map (Value.int .i64)) ∧
    (∀ k l, v.ownBlock = some k → u.ownBlock = some l → k ≠ l) ∧ Below w.heap.size w w'

set_option maxHeartbeats 1000000 in
theorem Twin_ok (ga aa : Option Addr) (gc ac : Nat) (gs ps : List Int) (w : World) (hg : IsInts w ga gs) (hp : IsInts w aa ps) (hlg : gs.length ≤ 65536) (hlp : ps.length ≤ 65536) :
    Calls Try.prog 10 #[tabV ga gs.length gc aa ps.length ac] w (FreshTab w gs ps) := by
  have HG := Lib.hid hg
  have HP := Lib.hid hp
  clear hg hp
  go_enter Try.func10, Try.ntmps10
  go_wp2
  have hS : Below w.heap.size w ((w.alloc (.cells #[.slice ga gs.length gc, .slice aa ps.length ac] 24)).alloc (.cells #[.slice none 0 0, .slice none 0 0] 24)) := ((Below.refl _ w).alloc (Nat.le_refl _) _).alloc (by simp) _
  have HS := Lib.hid hS.drew
  clear hS
  have e0 : IsInts (((w.alloc (.cells #[.slice ga gs.length gc, .slice aa ps.length ac] 24)).alloc (.cells #[.slice none 0 0, .slice none 0 0] 24)).drew) ga gs := HG.out.below HS.out
  generalize hw1 : (((w.alloc (.cells #[.slice ga gs.length gc, .slice aa ps.length ac] 24)).alloc (.cells #[.slice none 0 0, .slice none 0 0] 24))) = wz at *
  have f0 : wz.cell? ⟨w.heap.size, 0, none⟩ = some (.slice ga gs.length gc) := by rw [← hw1]; ((try simp (disch := first | omega | (simp only [World.size_alloc] <;> omega) | fail) only [World.cell?_alloc_past, World.cell?_alloc_at, World.frozen?_alloc_past, World.frozen?_alloc_at]) <;> rfl)
  have f1 : wz.cell? ⟨w.heap.size, 1, none⟩ = some (.slice aa ps.length ac) := by rw [← hw1]; ((try simp (disch := first | omega | (simp only [World.size_alloc] <;> omega) | fail) only [World.cell?_alloc_past, World.cell?_alloc_at, World.frozen?_alloc_past, World.frozen?_alloc_at]) <;> rfl)
  have f2 : wz.cell? ⟨w.heap.size + 1, 0, none⟩ = some (.slice none 0 0) := by rw [← hw1]; ((try simp (disch := first | omega | (simp only [World.size_alloc] <;> omega) | fail) only [World.cell?_alloc_past, World.cell?_alloc_at, World.frozen?_alloc_past, World.frozen?_alloc_at]) <;> rfl)
  have f3 : wz.cell? ⟨w.heap.size + 1, 1, none⟩ = some (.slice none 0 0) := by rw [← hw1]; ((try simp (disch := first | omega | (simp only [World.size_alloc] <;> omega) | fail) only [World.cell?_alloc_past, World.cell?_alloc_at, World.frozen?_alloc_past, World.frozen?_alloc_at]) <;> rfl)
  have f4 : wz.frozen? ⟨w.heap.size + 1, 0, none⟩ = false := by rw [← hw1]; ((try simp (disch := first | omega | (simp only [World.size_alloc] <;> omega) | fail) only [World.cell?_alloc_past, World.cell?_alloc_at, World.frozen?_alloc_past, World.frozen?_alloc_at]) <;> rfl)
  have f5 : wz.frozen? ⟨w.heap.size + 1, 1, none⟩ = false := by rw [← hw1]; ((try simp (disch := first | omega | (simp only [World.size_alloc] <;> omega) | fail) only [World.cell?_alloc_past, World.cell?_alloc_at, World.frozen?_alloc_past, World.frozen?_alloc_at]) <;> rfl)
  have fz : w.heap.size + 2 ≤ wz.heap.size := by
    rw [← hw1]; simp
  clear hw1
  have ez : wz.drew.heap.size = wz.heap.size := rfl
  go_region_law (first
    | (go_simp; go_at_call 29; refine (clone_ok ga gc gs _ e0 hlg).mono ?_; rintro e w1 ⟨v1, rfl, ho1, hb1⟩; obtain ⟨ao1, cc1, rfl, hn1, -⟩ := owns_news ho1
       have g1 : w1.cell? ⟨w.heap.size, 1, none⟩ = some (.slice aa ps.length ac) := (hb1.cell (p := ⟨w.heap.size, 1, none⟩) (by show w.heap.size < wz.heap.size; omega)).trans f1
       have g2 : w1.cell? ⟨w.heap.size + 1, 0, none⟩ = some (.slice none 0 0) := (hb1.cell (p := ⟨w.heap.size + 1, 0, none⟩) (by show w.heap.size + 1 < wz.heap.size; omega)).trans f2
       have g3 : w1.cell? ⟨w.heap.size + 1, 1, none⟩ = some (.slice none 0 0) := (hb1.cell (p := ⟨w.heap.size + 1, 1, none⟩) (by show w.heap.size + 1 < wz.heap.size; omega)).trans f3
       have g4 : w1.frozen? ⟨w.heap.size + 1, 0, none⟩ = false := (hb1.frozen (p := ⟨w.heap.size + 1, 0, none⟩) (by show w.heap.size + 1 < wz.heap.size; omega)).trans f4
       have g5 : w1.frozen? ⟨w.heap.size + 1, 1, none⟩ = false := (hb1.frozen (p := ⟨w.heap.size + 1, 1, none⟩) (by show w.heap.size + 1 < wz.heap.size; omega)).trans f5
       have g6 := hb1.size)
    | (go_simp; go_at_call 29; refine (clone_ok aa ac ps _ (HP.out.below (HS.out.trans (hb1.mono HS.out.size))) hlp).mono ?_; rintro e w2 ⟨v2, rfl, ho2, hb2⟩; obtain ⟨ao2, cc2, rfl, hn2, -⟩ := owns_news ho2
       have k2 : w2.cell? ⟨w.heap.size + 1, 0, none⟩ = some (.slice none 0 0) := (hb2.cell (p := ⟨w.heap.size + 1, 0, none⟩) (by show w.heap.size + 1 < w1.heap.size; omega)).trans g2
       have k3 : w2.cell? ⟨w.heap.size + 1, 1, none⟩ = some (.slice none 0 0) := (hb2.cell (p := ⟨w.heap.size + 1, 1, none⟩) (by show w.heap.size + 1 < w1.heap.size; omega)).trans g3
       have k4 : w2.frozen? ⟨w.heap.size + 1, 0, none⟩ = false := (hb2.frozen (p := ⟨w.heap.size + 1, 0, none⟩) (by show w.heap.size + 1 < w1.heap.size; omega)).trans g4
       have k5 : w2.frozen? ⟨w.heap.size + 1, 1, none⟩ = false := (hb2.frozen (p := ⟨w.heap.size + 1, 1, none⟩) (by show w.heap.size + 1 < w1.heap.size; omega)).trans g5))
  all_goals
    go_wp2
    have r1 : ((w2.setCell ⟨w.heap.size + 1, 0, none⟩ (.slice ao1 gs.length cc1)).setCell ⟨w.heap.size + 1, 1, none⟩ (.slice ao2 ps.length cc2)).cell? ⟨w.heap.size + 1, 0, none⟩ = some (.slice ao1 gs.length cc1) := by
      rw [World.cell?_setCell_other _ _ _ _ (by intro e; simp at e), World.cell?_setCell_same _ _ _ k2]
    have r2 : ((w2.setCell ⟨w.heap.size + 1, 0, none⟩ (.slice ao1 gs.length cc1)).setCell ⟨w.heap.size + 1, 1, none⟩ (.slice ao2 ps.length cc2)).cell? ⟨w.heap.size + 1, 1, none⟩ = some (.slice ao2 ps.length cc2) := by
      refine World.cell?_setCell_same _ _ _ (u := .slice none 0 0) ?_
      rw [World.cell?_setCell_other _ _ _ _ (by intro e; simp at e)]; exact k3
    have hk1 := ho1.lt
    have hk2 := ho2.lt
    have hz2 := hb2.size
    have o1 := owns_heap (W' := ((w2.setCell ⟨w.heap.size + 1, 0, none⟩ (.slice ao1 gs.length cc1)).setCell ⟨w.heap.size + 1, 1, none⟩ (.slice ao2 ps.length cc2))) (owns_base (owns_below ho1 hb2) (base' := w.heap.size) (by rw [ez]; omega)) (fun k hk => by
      have h := hk1 k hk
      rw [ez] at h
      rw [heap_setCell_ne _ _ _ (by show k ≠ w.heap.size + 1; omega), heap_setCell_ne _ _ _ (by show k ≠ w.heap.size + 1; omega)])
    have o2 := owns_heap (W' := ((w2.setCell ⟨w.heap.size + 1, 0, none⟩ (.slice ao1 gs.length cc1)).setCell ⟨w.heap.size + 1, 1, none⟩ (.slice ao2 ps.length cc2))) (owns_base ho2 (base' := w.heap.size) (by rw [ez] at g6; omega)) (fun k hk => by
      have h := hk2 k hk
      rw [ez] at g6
      rw [heap_setCell_ne _ _ _ (by show k ≠ w.heap.size + 1; omega), heap_setCell_ne _ _ _ (by show k ≠ w.heap.size + 1; omega)])
    have hbb : Below w.heap.size w ((w2.setCell ⟨w.heap.size + 1, 0, none⟩ (.slice ao1 gs.length cc1)).setCell ⟨w.heap.size + 1, 1, none⟩ (.slice ao2 ps.length cc2)) :=
      (((HS.out.trans (hb1.mono (by rw [ez]; omega))).trans (hb2.mono (by rw [ez] at g6; omega))).setCell (by show w.heap.size ≤ w.heap.size + 1; omega) _).setCell (by show w.heap.size ≤ w.heap.size + 1; omega) _
    have hne : ∀ k l, (Value.slice ao1 gs.length cc1).ownBlock = some k → (Value.slice ao2 ps.length cc2).ownBlock = some l → k ≠ l := fun k l h1 h2 => by
      have := (hk1 k h1).2; have := (hk2 l h2).1; omega
    exact bodyPost_ret (results_c rfl rfl (run_loadVar_two Try.underlying24 rfl (by kernel_rfl) r1 r2)) rfl ⟨_, _, rfl, o1, o2, hne, hbb⟩
end Go.Proofs.Ytonmgmhkejbikaa
