/- Merged: HeapUp, HeapFns, HeapLeaf. -/
import Derived.Test.YtelckhfmchnpnaaDoorHeap
import Derived.Test.YtelckhfmchnpnaaDoorHeapPlain
import Derived.Test.YtelckhfmchnpnaaDoorHeapNode
import Derived.Test.YtelckhfmchnpnaaDoorRangeS
import Derived.Lib.BitFns
import Derived.Sort.LoopGhostIn
namespace Go.Proofs.YtelckhfmchnpnaaDoor
set_option linter.unusedVariables false
set_option linter.unusedSimpArgs false
section
open Go.RowKit Go.Shelf
attribute [local go_sem] Oper.semAt_some

def upRows (n : Nat) : List (Array Value) := List.map (fun x : Nat => #[.int .i64 x]) (ups n)
theorem upRows_length (n : Nat) : (upRows n).length = n.log2 + 1 := by simp [upRows, ups_length]
theorem upRows_get {n k : Nat} (h1 : 1 ≤ n) (h : k ≤ n.log2) : (upRows n).getD k #[] = #[.int .i64 ((n / 2 ^ k : Nat) : Int)] := by
  have hk : k < (ups n).length := by rw [ups_length]; omega
  have h2 := ups_get h1 h
  rw [List.getD_eq_getElem?_getD, List.getElem?_eq_getElem hk] at h2
  rw [upRows, List.getD_eq_getElem?_getD, List.getElem?_map, List.getElem?_eq_getElem hk]
  simp only [Option.map_some, Option.getD_some] at h2 ⊢
  rw [h2]

/-- what the iterator does between two rounds: its own variable is halved -/
def UpSw (b : Nat) (W W' : World) : Prop := ∃ v : Int, W' = W.setCell ⟨b, 0, none⟩ (.int .i64 v)
theorem UpSw.keeps {b : Nat} {A C : World} (h : UpSw b A C) : KeepsOthers A C := by
  obtain ⟨v, rfl⟩ := h
  exact KeepsOthers.setCell _ _ _

end

section
open Go.RowKit Go.Shelf
attribute [local go_sem] Oper.semAt_some

/-- a call that answers a known value and leaves all that was there alone -/
def Gives (w : World) (v : Value) (e : Ending) (w' : World) : Prop := e = .returned v ∧ Below w.heap.size w w'

theorem Size_any (l : Int) (w : World) :
    Calls Tryd.prog 27 #[.int .i64 l] w fun e w' => e = .returned (.tuple #[.int .i64 (szR l), .int .i64 (lvE l)]) ∧ w = w' := by
  by_cases h : 1 ≤ l ∧ l ≤ 14
  · rw [szR, lvE_ok h.1 h.2]; exact Size_ok l h.1 h.2 w
  · rw [szR, lvE_no (by omega)]; exact Size_err l (by omega) w
theorem Split_any (l : Int) (w : World) :
    Calls Tryd.prog 46 #[.int .i64 l] w fun e w' => e = .returned (.tuple #[.int .i64 (spU l), .int .i64 (spL l), .int .i64 (spE l)]) ∧ w = w' := by
  by_cases hl : 1 ≤ l ∧ l ≤ 14
  · by_cases h1 : l = 1
    · subst h1
      have hv : spE 1 = 6 := by simp [spE]
      rw [spU, spL, hv]
      clear hv hl
      go_enter Tryd.func46, Tryd.ntmps46
      go_wp2_with (go_at_call 18; refine (tree_ok _ (by omega) (by omega) _).mono ?_; rintro e w' ⟨rfl, rfl⟩)
      go_ret3
      exact ⟨rfl, rfl⟩
    · have hv : spE l = 0 := by simp [spE, hl, h1]
      rw [spU, spL, hv]
      exact Split_ok l (by omega) (by omega) w
  · have hv : spE l = 2 := by simp [spE, hl]
    rw [spU, spL, hv]
    clear hv
    go_enter Tryd.func46, Tryd.ntmps46
    go_wp2_with (go_at_call 18; refine (tree_err _ (by omega) _).mono ?_; rintro e w' ⟨rfl, rfl⟩)
    go_ret3
    exact ⟨rfl, rfl⟩
end

section
open Go.RowKit Go.Shelf
attribute [local go_sem] Oper.semAt_some

theorem toNat_pred (l : Int) : (l - 1).toNat = l.toNat - 1 := by omega
theorem Leaf_any (l k : Int) (w : World) :
    Calls Tryd.prog 8 #[.int .i64 l, .int .i64 k] w fun e w' => e = .returned (.tuple #[.int .i64 (lfR l k), .int .i64 (lfE l k)]) ∧ w = w' := by
  by_cases hl : 1 ≤ l ∧ l ≤ 14
  · obtain ⟨h1, h2⟩ := hl
    obtain ⟨hp1, hp2⟩ := pow_bd (l.toNat - 1) (by omega)
    by_cases hc : 0 ≤ k ∧ k < 2 ^ (l.toNat - 1)
    · obtain ⟨hk, hm⟩ := hc
      have hv : lfE l k = 0 := by simp only [lfE, h1, h2, hk, hm, and_self, if_true]
      have hr : lfR l k = 2 ^ (l.toNat - 1) + k := by rw [lfR, hv]; rfl
      rw [hv, hr]
      clear hv hr
      go_enter Tryd.func8, Tryd.ntmps8
      go_wp2_with (go_at_call 18; refine (tree_ok _ h1 h2 _).mono ?_; rintro e w' ⟨rfl, rfl⟩)
      go_ret2
      exact ⟨rfl, rfl⟩
    · have hv : lfE l k = 2 := by simp only [lfE, hc, and_false, if_false]
      have hr : lfR l k = 0 := by rw [lfR, hv]; rfl
      rw [hv, hr]
      clear hv hr
      have hsp : k < 0 ∨ (0 ≤ k ∧ 2 ^ (l.toNat - 1) ≤ k) := by omega
      clear hc
      rcases hsp with hk | ⟨hk, hm⟩
      all_goals
        go_enter Tryd.func8, Tryd.ntmps8
        go_wp2_with (go_at_call 18; refine (tree_ok _ h1 h2 _).mono ?_; rintro e w' ⟨rfl, rfl⟩)
        go_ret2
        exact ⟨rfl, rfl⟩
  · have hv : lfE l k = 2 := by simp only [lfE, hl, false_and, if_false]
    have hr : lfR l k = 0 := by rw [lfR, hv]; rfl
    rw [hv, hr]
    clear hv hr
    go_enter Tryd.func8, Tryd.ntmps8
    go_wp2_with (go_at_call 18; refine (tree_err _ (by omega) _).mono ?_; rintro e w' ⟨rfl, rfl⟩)
    go_ret2
    exact ⟨rfl, rfl⟩
end
end Go.Proofs.YtelckhfmchnpnaaDoor
