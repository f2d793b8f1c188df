/- An index that may be is a good tree; what stands ahead of a leaf; the root's place. No function of the program is walked here. -/
import Derived.Test.YtelckhfmchnpnaaDownPlain
import Derived.Test.YtelckhfmchnpnaaVebPos
namespace Go.Proofs.Ytelckhfmchnpnaa
open Go.RowKit
set_option linter.unusedVariables false
set_option linter.unusedSimpArgs false

theorem good_at {L : Nat} {ms cs : List Int} (h : allFrom (ndB L ms cs) 1 (2 ^ L - 1) = true) : ∀ d n, d < L → 2 ^ (L - 1 - d) ≤ n → n < 2 ^ (L - d) → Good (tlF L ms) (tlF L cs) d n := by
  rw [allFrom_iff] at h
  intro d
  induction d with
  | zero =>
    intro n hd h1 h2
    have hp := Nat.two_pow_pos (L - 1 - 0)
    have := h n (by omega) (by rw [Nat.sub_zero] at h2; omega)
    unfold ndB at this
    rw [Bool.and_eq_true] at this
    exact this.1
  | succ d ih =>
    intro n hd h1 h2
    have hp := Nat.two_pow_pos (L - 1 - (d + 1))
    have e1 : 2 ^ (L - 1 - d) = 2 * 2 ^ (L - 1 - (d + 1)) := by rw [show L - 1 - d = L - 1 - (d + 1) + 1 by omega, Nat.pow_succ]; omega
    have e2 : 2 ^ (L - d) = 2 * 2 ^ (L - (d + 1)) := by rw [show L - d = L - (d + 1) + 1 by omega, Nat.pow_succ]; omega
    have e3 : 2 ^ (L - d) ≤ 2 ^ L := Nat.pow_le_pow_right (by omega) (by omega)
    have hn := h n (by omega) (by omega)
    unfold ndB at hn
    rw [Bool.and_eq_true, decide_eq_false (by omega : ¬ 2 ^ L - 1 < 2 * n), Bool.false_or] at hn
    exact ⟨hn.1, hn.2, ih (2 * n) (by omega) (by omega) (by omega), ih (2 * n + 1) (by omega) (by omega) (by omega)⟩
theorem good_root {L : Nat} {ms cs : List Int} (hL : 1 ≤ L) (h : allFrom (ndB L ms cs) 1 (2 ^ L - 1) = true) : Good (tlF L ms) (tlF L cs) (L - 1) 1 := by
  refine good_at h (L - 1) 1 (by omega) (by rw [Nat.sub_self]; exact Nat.le_refl _) ?_
  rw [show L - (L - 1) = 1 by omega]
  decide
theorem pos_zero : ∀ m L, L ≤ m → pos L 0 0 = 0 := by
  intro m
  induction m with
  | zero =>
    intro L h
    rw [pos]
    simp [show L ≤ 1 by omega]
  | succ m ih =>
    intro L h
    by_cases h1 : 2 ≤ L
    · rw [pos_up 0 h1 (by omega)]
      exact ih _ (by omega)
    · rw [pos]
      simp [show L ≤ 1 by omega]
/-- n leaves behind those that are ahead of a node: its own -/
theorem lvs_take {f g : Nat → Int} {D d m : Nat} (hd : d ≤ D) (h1 : 2 ^ D ≤ m * 2 ^ d) (h2 : (m + 1) * 2 ^ d ≤ 2 * 2 ^ D) :
    (lvs f g D 1).take (m * 2 ^ d - 2 ^ D + 2 ^ d) = (lvs f g D 1).take (m * 2 ^ d - 2 ^ D) ++ lvs f g d m := by
  rw [Nat.add_mul, Nat.one_mul] at h2
  obtain ⟨P, hP⟩ : ∃ P, m * 2 ^ d = P := ⟨_, rfl⟩
  rw [hP] at h1 h2 ⊢
  have p1 := Nat.two_pow_pos d
  have p2 := Nat.two_pow_pos D
  generalize hQ : 2 ^ D = Q at h1 h2 p2 ⊢
  generalize hR : 2 ^ d = R at h2 p1 ⊢
  have e : ((lvs f g D 1).take (P - Q)).length = P - Q := by
    rw [List.length_take, lvs_length, hQ]
    omega
  refine List.ext_getElem? fun k => ?_
  by_cases hk : k < P - Q
  · rw [List.getElem?_take, if_pos (by omega), List.getElem?_append_left (by rw [e]; exact hk), List.getElem?_take, if_pos hk]
  · rw [List.getElem?_append_right (by rw [e]; omega), e]
    by_cases hk2 : k < P - Q + R
    · rw [List.getElem?_take, if_pos hk2, lvs_get _ _ _ (by rw [hQ]; omega), lvs_get _ _ _ (by rw [hR]; omega), hP, hQ]
      rw [show 1 * Q + k = P + (k - (P - Q)) by omega]
    · rw [List.getElem?_take, if_neg hk2, List.getElem?_eq_none (by rw [lvs_length, hR]; omega)]
/-- how many keys stand ahead of a leaf: one step down -/
theorem Good.ahead {f g : Nat → Int} {D d m : Nat} (h : Good f g d m) (hd : d ≤ D) (h1 : 2 ^ D ≤ m * 2 ^ d) (h2 : (m + 1) * 2 ^ d ≤ 2 * 2 ^ D) :
    cntL ((lvs f g D 1).take (m * 2 ^ d - 2 ^ D + 2 ^ d)) = cntL ((lvs f g D 1).take (m * 2 ^ d - 2 ^ D)) + g m := by
  rw [lvs_take hd h1 h2, cntL_append, h.cnt]
/-- one step down for Nth -/
theorem Good.nth_step {f g : Nat → Int} {d n : Nat} (h : Good f g (d + 1) n) (i k : Int) (h0 : 0 ≤ k) (hk : k < g n) :
    if k < g (2 * n) then nthL (lvs f g (d + 1) n) i k = nthL (lvs f g d (2 * n)) i k
    else k - g (2 * n) < g (2 * n + 1) ∧ nthL (lvs f g (d + 1) n) i k = nthL (lvs f g d (2 * n + 1)) (i + ((2 ^ d : Nat) : Int)) (k - g (2 * n)) := by
  obtain ⟨h1, h2, h3, h4⟩ := h
  obtain ⟨j1, -, -, -⟩ := join_facts h2
  split
  · rename_i hl
    rw [lvs, nthL_in _ _ _ _ h0 (by rw [h3.cnt]; exact hl)]
  · rename_i hl
    refine ⟨by omega, ?_⟩
    rw [lvs, nthL_past _ _ _ _ h3.nonneg (by rw [h3.cnt]; omega), lvs_length, h3.cnt]
theorem homeL_fail {f g : Nat → Int} {d n : Nat} (h : Good f g d n) {key : Int} (hs : ¬ srv key (f n) (g n)) (i s : Int) : homeL key (lvs f g d n) i s = (0, 0, 6) := by
  have := homeL_none (key := key) (lvs f g d n) [] i s (fun p hp hq => hs ((h.srv_iff key).2 ⟨p, hp, hq⟩))
  rw [List.append_nil] at this
  rw [this]
  rfl
theorem nthL_fail {f g : Nat → Int} {d n : Nat} (h : Good f g d n) {k : Int} (hk : g n ≤ k) (i : Int) : nthL (lvs f g d n) i k = (0, 0, 290) := by
  have := nthL_past (lvs f g d n) [] i k h.nonneg (by rw [h.cnt]; exact hk)
  rw [List.append_nil] at this
  rw [this]
  rfl
end Go.Proofs.Ytelckhfmchnpnaa
