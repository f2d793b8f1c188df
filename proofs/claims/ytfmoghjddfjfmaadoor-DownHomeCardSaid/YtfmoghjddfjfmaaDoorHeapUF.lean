/- Merged: HeapUp, HeapFns, HeapLeaf. -/
import Derived.Test.YtfmoghjddfjfmaaDoorHeap
import Derived.Test.YtfmoghjddfjfmaaDoorHeapPlain
import Derived.Test.YtfmoghjddfjfmaaDoorHeapNode
import Derived.Test.YtfmoghjddfjfmaaDoorRangeS
import Derived.Lib.BitFns
import Derived.Sort.LoopGhostIn
namespace Go.Proofs.YtfmoghjddfjfmaaDoor
set_option linter.unusedVariables false
set_option linter.unusedSimpArgs false
section
open Go.RowKit Go.Shelf
attribute [local go_sem] Oper.semAt_some

theorem up_ok (n : Int) (w : World) :
    Calls Tryd.prog 50 #[.int .i64 n] w fun e w' => e = .returned (.func (.func 67) #[] #[.pointer (some ⟨w.heap.size, 0, none⟩)]) ∧ w.alloc (.cells #[.int .i64 n] 3) = w' := by
  go_enter Tryd.func50, Tryd.ntmps50
  go_wp2
  go_ret
  exact ⟨rfl, rfl⟩

def upRows (n : Nat) : List (Array Value) := List.map (fun x : Nat => #[.int .i64 x]) (ups n)
theorem upRows_length (n : Nat) : (upRows n).length = n.log2 + 1 := by simp [upRows, ups_length]
theorem upRows_get {n k : Nat} (h1 : 1 ≤ n) (h : k ≤ n.log2) : (upRows n).getD k #[] = #[.int .i64 ((n / 2 ^ k : Nat) : Int)] := by
  have hk : k < (ups n).length := by rw [ups_length]; omega
  have h2 := ups_get h1 h
  rw [List.getD_eq_getElem?_getD, List.getElem?_eq_getElem hk] at h2
  rw [upRows, List.getD_eq_getElem?_getD, List.getElem?_map, List.getElem?_eq_getElem hk]
  simp only [Option.map_some, Option.getD_some] at h2 ⊢
  rw [h2]

/-- what the iterator does between two rounds: its own variable is halved -/
def UpSw (b : Nat) (W W' : World) : Prop := ∃ v : Int, W' = W.setCell ⟨b, 0, none⟩ (.int .i64 v)
theorem UpSw.keeps {b : Nat} {A C : World} (h : UpSw b A C) : KeepsOthers A C := by
  obtain ⟨v, rfl⟩ := h
  exact KeepsOthers.setCell _ _ _

set_option maxHeartbeats 400000 in
theorem up1_iter (n : Nat) (h1 : 1 ≤ n) (h2 : n < 16384) (b : Nat) (w : World) (hb : w.cell? ⟨b, 0, none⟩ = some (.int .i64 n)) (hf : w.frozen? ⟨b, 0, none⟩ = false) :
    IterS Tryd.prog 67 #[.pointer (some ⟨b, 0, none⟩)] (upRows n) (fun W W' => W'.heap[b]? = W.heap[b]?) (UpSw b) w := by
  intro l J Jx W hW hJ hJx hY h0
  have hbl : b < w.heap.size := World.block_lt_of_cell? w _ hb
  have hcW : W.cell? ⟨b, 0, none⟩ = some (.int .i64 n) := (hW.cell (p := ⟨b, 0, none⟩) hbl).trans hb
  have hfW : W.frozen? ⟨b, 0, none⟩ = false := (hW.frozen (p := ⟨b, 0, none⟩) hbl).trans hf
  have HY := Lib.hid hY
  have HJ := Lib.hid hJ
  clear hY hJ hJx hb hf
  refine callsIn_of_wp Tryd.func67 rfl trivial ?_ rfl
  simp only [Tryd.ntmps67, List.size_toArray, List.length_cons, List.length_nil, Nat.reduceAdd, Nat.reduceSub, Array.replicate_succ, Array.replicate_zero, List.push_toArray, List.append_toArray, List.nil_append, List.cons_append]
  gi_wp2
  gi_loopg [] (n.log2 + 1) (fun g wr => ∃ k : Nat, k + g = n.log2 + 1 ∧ J k wr ∧ wr.cell? ⟨b, 0, none⟩ = some (.int .i64 ((n / 2 ^ k : Nat) : Int)) ∧ wr.frozen? ⟨b, 0, none⟩ = false)
  case atStart => exact ⟨0, by omega, h0, by simpa using hcW, hfW⟩
  case round =>
    obtain ⟨k, hk, hJk, hc, hfz⟩ := hrel
    obtain ⟨x, hx⟩ : ∃ x, n / 2 ^ k = x := ⟨_, rfl⟩
    have hxn : x ≤ n := by rw [← hx]; exact Nat.div_le_self _ _
    have hhalf : n / 2 ^ (k + 1) = x / 2 := by rw [← half_pow, hx]
    by_cases hlt : k ≤ n.log2
    · have hpos : 1 ≤ x := by rw [← hx]; exact (half_pos h1).1 hlt
      obtain ⟨fn, tmps, assign, body, hy, hR⟩ := HY.out k wr (by rw [upRows_length]; omega) hJk
      rw [upRows_get h1 hlt] at hy
      rw [hx] at hc hy
      have HH := Lib.hid hhalf
      have HK := Lib.hid hk
      clear hx hhalf hJk hcW hfW h0 hk
      gi_wp2
      refine ⟨rfl, hR.mono ?_⟩
      rintro e W3 (⟨rfl, hJ3, hk3⟩ | ⟨rfl, hJx3⟩)
      · have hc3 : W3.cell? ⟨b, 0, none⟩ = some (.int .i64 x) := by rw [World.cell?_of_block (w := wr) hk3]; exact hc
        have hf3 : W3.frozen? ⟨b, 0, none⟩ = false := by rw [World.frozen?_of_block (w := wr) hk3]; exact hfz
        have HJ3 := Lib.hid hJ3
        clear hk3 hc hfz hJ3
        gi_wp2
        gi_roundg (gk - 1)
        case measure => have := HK.out; omega
        case rel =>
          refine ⟨k + 1, by have := HK.out; omega, HJ.out _ _ _ HJ3.out ⟨_, rfl⟩, ?_, by rw [World.frozen?_setCell]; exact hf3⟩
          rw [World.cell?_setCell_same _ _ _ hc3, HH.out]
          rfl
      · gi_wp2
        refine bodyPost_end (results_none rfl _ _ _) rfl ⟨⟨_, rfl⟩, .inr ⟨k + 1, by rw [upRows_length]; omega, hJx3⟩⟩
    · have hz : x = 0 := by
        have := mt (half_pos (n := n) (k := k) h1).2 hlt
        rw [hx] at this
        omega
      have hc0 : wr.cell? ⟨b, 0, none⟩ = some (.int .i64 0) := by rw [hx, hz] at hc; exact hc
      subst hz
      clear hc
      have hkk : k = n.log2 + 1 := by omega
      have HJ4 := Lib.hid hJk
      clear hx hhalf hJk hcW hfW h0 hk
      gi_wp2
      refine ⟨fun f h => (by cases h), ?_⟩
      gi_wp2
      refine bodyPost_end (results_none rfl _ _ _) rfl ⟨⟨_, rfl⟩, .inl ?_⟩
      rw [upRows_length, ← hkk]
      exact HJ4.out
end

section
open Go.RowKit Go.Shelf
attribute [local go_sem] Oper.semAt_some

/-- a call that answers a known value and leaves all that was there alone -/
def Gives (w : World) (v : Value) (e : Ending) (w' : World) : Prop := e = .returned v ∧ Below w.heap.size w w'

theorem Size_any (l : Int) (w : World) :
    Calls Tryd.prog 56 #[.int .i64 l] w fun e w' => e = .returned (.tuple #[.int .i64 (szR l), .int .i64 (lvE l)]) ∧ w = w' := by
  by_cases h : 1 ≤ l ∧ l ≤ 14
  · rw [szR, lvE_ok h.1 h.2]; exact Size_ok l h.1 h.2 w
  · rw [szR, lvE_no (by omega)]; exact Size_err l (by omega) w
theorem Split_any (l : Int) (w : World) :
    Calls Tryd.prog 52 #[.int .i64 l] w fun e w' => e = .returned (.tuple #[.int .i64 (spU l), .int .i64 (spL l), .int .i64 (spE l)]) ∧ w = w' := by
  by_cases hl : 1 ≤ l ∧ l ≤ 14
  · by_cases h1 : l = 1
    · subst h1
      have hv : spE 1 = 6 := by simp [spE]
      rw [spU, spL, hv]
      clear hv hl
      go_enter Tryd.func52, Tryd.ntmps52
      go_wp2_with (go_at_call 46; refine (tree_ok _ (by omega) (by omega) _).mono ?_; rintro e w' ⟨rfl, rfl⟩)
      go_ret3
      exact ⟨rfl, rfl⟩
    · have hv : spE l = 0 := by simp [spE, hl, h1]
      rw [spU, spL, hv]
      exact Split_ok l (by omega) (by omega) w
  · have hv : spE l = 2 := by simp [spE, hl]
    rw [spU, spL, hv]
    clear hv
    go_enter Tryd.func52, Tryd.ntmps52
    go_wp2_with (go_at_call 46; refine (tree_err _ (by omega) _).mono ?_; rintro e w' ⟨rfl, rfl⟩)
    go_ret3
    exact ⟨rfl, rfl⟩
end

section
open Go.RowKit Go.Shelf
attribute [local go_sem] Oper.semAt_some

theorem toNat_pred (l : Int) : (l - 1).toNat = l.toNat - 1 := by omega
theorem Leaf_any (l k : Int) (w : World) :
    Calls Tryd.prog 28 #[.int .i64 l, .int .i64 k] w fun e w' => e = .returned (.tuple #[.int .i64 (lfR l k), .int .i64 (lfE l k)]) ∧ w = w' := by
  by_cases hl : 1 ≤ l ∧ l ≤ 14
  · obtain ⟨h1, h2⟩ := hl
    obtain ⟨hp1, hp2⟩ := pow_bd (l.toNat - 1) (by omega)
    by_cases hc : 0 ≤ k ∧ k < 2 ^ (l.toNat - 1)
    · obtain ⟨hk, hm⟩ := hc
      have hv : lfE l k = 0 := by simp only [lfE, h1, h2, hk, hm, and_self, if_true]
      have hr : lfR l k = 2 ^ (l.toNat - 1) + k := by rw [lfR, hv]; rfl
      rw [hv, hr]
      clear hv hr
      go_enter Tryd.func28, Tryd.ntmps28
      go_wp2_with (go_at_call 46; refine (tree_ok _ h1 h2 _).mono ?_; rintro e w' ⟨rfl, rfl⟩)
      go_ret2
      exact ⟨rfl, rfl⟩
    · have hv : lfE l k = 2 := by simp only [lfE, hc, and_false, if_false]
      have hr : lfR l k = 0 := by rw [lfR, hv]; rfl
      rw [hv, hr]
      clear hv hr
      have hsp : k < 0 ∨ (0 ≤ k ∧ 2 ^ (l.toNat - 1) ≤ k) := by omega
      clear hc
      rcases hsp with hk | ⟨hk, hm⟩
      all_goals
        go_enter Tryd.func28, Tryd.ntmps28
        go_wp2_with (go_at_call 46; refine (tree_ok _ h1 h2 _).mono ?_; rintro e w' ⟨rfl, rfl⟩)
        go_ret2
        exact ⟨rfl, rfl⟩
  · have hv : lfE l k = 2 := by simp only [lfE, hl, false_and, if_false]
    have hr : lfR l k = 0 := by rw [lfR, hv]; rfl
    rw [hv, hr]
    clear hv hr
    go_enter Tryd.func28, Tryd.ntmps28
    go_wp2_with (go_at_call 46; refine (tree_err _ (by omega) _).mono ?_; rintro e w' ⟨rfl, rfl⟩)
    go_ret2
    exact ⟨rfl, rfl⟩
end
end Go.Proofs.YtfmoghjddfjfmaaDoor
