/- The iterator of package eytz: it hands on all places, in order. -/
import Derived.Test.YtcbeldemkfbliaaEytz
namespace Go.Proofs.Ytcbeldemkfbliaa
open Go.RowKit Go.Shelf
attribute [local go_sem] Oper.semAt_some
set_option linter.unusedVariables false

def ordPairs (n : Nat) : List (Array Value) := List.map (fun k : Nat => #[.int .i64 k, .int .i64 ((ord n 0).getD k 0 : Nat)]) (List.range n)
theorem ordPairs_length (n : Nat) : (ordPairs n).length = n := by simp [ordPairs]
theorem ordPairs_get {n k : Nat} (h : k < n) : (ordPairs n).getD k #[] = #[.int .i64 k, .int .i64 ((ord n 0).getD k 0 : Nat)] := by
  rw [List.getD_eq_getElem?_getD, ordPairs, List.getElem?_map, List.getElem?_range h]; rfl

def PlJ (n l b : Nat) (J : Nat → World → Prop) (g : Nat) (a' : Act) (W : World) : Prop :=
  ∃ k x : Nat, k + g = n ∧ k < n ∧ (∃ pre, ord n 0 = pre ++ x :: rest n x ∧ pre.length = k) ∧ J k W ∧ W.cell? ⟨b, 0, none⟩ = some (.int .i64 n) ∧ ∃ u : Nat → Value, a' = { tmps := #[.func (.yield l) #[] #[], .pointer (some ⟨b, 0, none⟩), undef, .int .i64 k, .int .i64 x, u 5, u 6, u 7, u 8, u 9, u 10, u 11, u 12, u 13, u 14, u 15, u 16, u 17, u 18, u 19, u 20], defers := [] }

theorem at_of_split {n x k : Nat} (h : ∃ pre, ord n 0 = pre ++ x :: rest n x ∧ pre.length = k) : (ord n 0).getD k 0 = x := by
  obtain ⟨pre, e, rfl⟩ := h
  rw [e, List.getD_eq_getElem?_getD]; simp
theorem split_next {n x k y : Nat} (h : ∃ pre, ord n 0 = pre ++ x :: rest n x ∧ pre.length = k) (hy : nxt n x = some y) : ∃ pre, ord n 0 = pre ++ y :: rest n y ∧ pre.length = k + 1 := by
  obtain ⟨pre, e, rfl⟩ := h
  have := rest_nxt n x
  rw [hy] at this
  simp only at this
  exact ⟨pre ++ [x], by rw [e, this]; simp, by simp⟩
theorem split_end {n x k : Nat} (h : ∃ pre, ord n 0 = pre ++ x :: rest n x ∧ pre.length = k) (hy : nxt n x = none) : k + 1 = n := by
  obtain ⟨pre, e, rfl⟩ := h
  have h1 := rest_nxt n x
  rw [hy] at h1
  simp only at h1
  have h2 := congrArg List.length e
  rw [ord_length, h1] at h2
  simp at h2
  omega
theorem split_lt {n x k : Nat} (h : ∃ pre, ord n 0 = pre ++ x :: rest n x ∧ pre.length = k) : x < n := by
  obtain ⟨pre, e, rfl⟩ := h
  have : x ∈ ord n 0 := by rw [e]; simp
  exact (ord_mem this).1

set_option maxHeartbeats 1000000 in
theorem places1_iter (n : Nat) (h1 : n ≤ 65536) (b : Nat) (w : World) (hb : w.cell? ⟨b, 0, none⟩ = some (.int .i64 n)) :
    Iter Try.prog 29 #[.pointer (some ⟨b, 0, none⟩)] (ordPairs n) (fun W W' => W'.heap[b]? = W.heap[b]?) w := by
  intro l J Jx W hW hJ hJx hY h0
  have hbl : b < w.heap.size := World.block_lt_of_cell? w _ hb
  have hcW : W.cell? ⟨b, 0, none⟩ = some (.int .i64 n) := (hW.cell (p := ⟨b, 0, none⟩) hbl).trans hb
  have HY := Lib.hid hY
  have HX := Lib.hid hJx
  clear hY hJ hJx hb
  refine callsIn_of_wp Try.func29 rfl trivial ?_ rfl
  simp only [Try.ntmps29, List.size_toArray, List.length_cons, List.length_nil, Nat.reduceAdd, Nat.reduceSub, Array.replicate_succ, Array.replicate_zero, List.push_toArray, List.append_toArray, List.nil_append, List.cons_append]
  refine wpIn_scope_loop 0 (PlJ n l b J) rfl ?_ ?_
  · rintro g a wr ⟨k, x, hk, hkn, hsp, hJk, hc, u, rfl⟩ H hH
    obtain ⟨fn, tmps, assign, body, hy, hR⟩ := HY.out k wr (by rw [ordPairs_length]; exact hkn) hJk
    rw [ordPairs_get hkn, at_of_split hsp] at hy
    have hxn := split_lt hsp
    have HS := Lib.hid hsp
    have HK := Lib.hid hk
    have HJ := Lib.hid hJk
    clear hsp hk hJk
    gi_wp2
    refine ⟨rfl, hR.mono ?_⟩
    rintro e W3 (⟨rfl, hJ3, hk3⟩ | ⟨rfl, hJx3⟩)
    · have hc3 : W3.cell? ⟨b, 0, none⟩ = some (.int .i64 n) := by rw [World.cell?_of_block (w := wr) hk3]; exact hc
      have HK3 := Lib.hid hk3
      have HJ3 := Lib.hid hJ3
      clear hk3 hJ3 hc
      have hcall := next_ok n x _ _ rfl rfl hxn h1 W3
      cases hnx : nxt n x with
      | none =>
        rw [hnx] at hcall
        simp only [plI] at hcall
        have HC := Lib.hid hcall
        have HN := Lib.hid hnx
        clear hnx hcall
        gi_wp2_with fail
        refine ⟨trivial, rfl, (callsIn_wide.2 HC.out).mono ?_⟩
        rintro e w' ⟨rfl, rfl⟩
        gi_wp2
        simp only [Exit.jump]
        refine bodyPost_end (results_none rfl _ _ _) rfl ⟨⟨_, rfl⟩, .inl ?_⟩
        rw [ordPairs_length, ← split_end HS.out HN.out]
        exact HJ3.out
      | some y =>
        rw [hnx] at hcall
        simp only [plI] at hcall
        have hne : ((y : Int) != -1) = true := by simp
        have HC := Lib.hid hcall
        have HN := Lib.hid hnx
        clear hnx hcall
        gi_wp2_with fail
        refine ⟨trivial, rfl, (callsIn_wide.2 HC.out).mono ?_⟩
        rintro e w' ⟨rfl, rfl⟩
        gi_wp2
        refine wpIn_goto ?_
        have hlt := (split_next HS.out HN.out)
        have hk2 : k + 1 < n := by
          obtain ⟨pre, e, hp⟩ := hlt
          have h2 := congrArg List.length e
          rw [ord_length] at h2
          simp at h2
          omega
        refine show (0 = 0 ∧ H _ _) from ⟨rfl, hH (g - 1) _ _ (by have := HK.out; omega) ⟨k + 1, y, by have := HK.out; omega, hk2, hlt, HJ3.out, hc3, frame_mk _ _ _ ?_⟩⟩
        rw [show ((k + 1 : Nat) : Int) = (k : Int) + 1 by omega]
        rfl
    · gi_wp2
      simp only [Exit.jump]
      refine bodyPost_ret (results_none rfl _ _ _) rfl ⟨⟨_, rfl⟩, .inr ⟨k + 1, by rw [ordPairs_length]; omega, hJx3⟩⟩
  · intro H hH hpass
    by_cases hn : n = 0
    · subst hn
      gi_wp2
      simp only [Exit.jump]
      refine bodyPost_ret (results_none rfl _ _ _) rfl ⟨⟨_, rfl⟩, .inl h0⟩
    · have hn0 : ((n : Int) == 0) = false := by simp; omega
      gi_wp2_with fail
      refine ⟨trivial, rfl, (callsIn_wide.2 (leftmost_ok n 0 _ _ rfl rfl (by omega) h1 _)).mono ?_⟩
      rintro e w' ⟨rfl, rfl⟩
      gi_wp2
      refine wpIn_label ?_
      gi_step
      gi_step
      refine hpass n _ _ ⟨0, lm n 0, by omega, by omega, ⟨[], by rw [ord_head n (by omega)]; rfl, rfl⟩, h0, hcW, frame_mk _ _ _ rfl⟩
end Go.Proofs.Ytcbeldemkfbliaa
