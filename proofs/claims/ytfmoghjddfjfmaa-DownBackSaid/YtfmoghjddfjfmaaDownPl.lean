/- The plain law of DownOrder and DownBack: what stands where in a list of leaves. No function of the program is walked here. -/
import Derived.Test.YtfmoghjddfjfmaaDwnP
namespace Go.Proofs.Ytfmoghjddfjfmaa
open Go.RowKit
set_option linter.unusedVariables false
set_option linter.unusedSimpArgs false

theorem cntL_nn {l : List (Int × Int)} (h : ∀ p ∈ l, 0 ≤ p.2) : 0 ≤ cntL l := by
  induction l with
  | nil => simp [cntL]
  | cons p r ih => rw [cntL_cons]; have := h p (by simp); have := ih fun q hq => h q (by simp [hq]); omega
theorem cntL_take_mono : ∀ {l : List (Int × Int)} (h : ∀ p ∈ l, 0 ≤ p.2) {j k : Nat}, j ≤ k → cntL (l.take j) ≤ cntL (l.take k) := by
  intro l h j k hjk
  obtain ⟨d, rfl⟩ := Nat.exists_eq_add_of_le hjk
  rw [List.take_add, cntL_append]
  have := cntL_nn (l := (l.drop j).take d) fun p hp => h p (List.mem_of_mem_drop (List.mem_of_mem_take hp))
  omega
theorem homeL_err {key : Int} : ∀ (l : List (Int × Int)) (i s : Int), (homeL key l i s).2.2 = 0 ∨ homeL key l i s = (0, 0, 6) := by
  intro l
  induction l with
  | nil => intro i s; exact .inr rfl
  | cons p r ih =>
    intro i s
    rw [homeL]
    split
    · exact .inl rfl
    · exact ih _ _
theorem homeL_two {a b : Int} (hab : a ≤ b) : ∀ (l : List (Int × Int)) (i s : Int), (homeL b l i s).2.2 = 0 →
    ∃ j k : Nat, j ≤ k ∧ k < l.length ∧ homeL a l i s = (i + j, s + cntL (l.take j), 0) ∧ homeL b l i s = (i + k, s + cntL (l.take k), 0) := by
  intro l
  induction l with
  | nil => intro i s h; cases h
  | cons p r ih =>
    intro i s h
    have e0 : i + ((0 : Nat) : Int) = i := by simp
    have e1 : s + cntL ((p :: r).take 0) = s := by simp [cntL]
    by_cases hb : srv b p.1 p.2
    · have ha : srv a p.1 p.2 := ⟨hb.1, by have := hb.2; omega⟩
      refine ⟨0, 0, Nat.le_refl _, by simp, ?_, ?_⟩
      · rw [homeL, if_pos ha, e0, e1]
      · rw [homeL, if_pos hb, e0, e1]
    · rw [homeL, if_neg hb] at h
      obtain ⟨j, k, hjk, hk, h1, h2⟩ := ih _ _ h
      have es : ∀ j : Nat, s + p.2 + cntL (r.take j) = s + cntL ((p :: r).take (j + 1)) := fun j => by rw [List.take_succ_cons, cntL_cons]; omega
      have ei : ∀ j : Nat, i + 1 + (j : Int) = i + ((j + 1 : Nat) : Int) := fun j => by push_cast; omega
      by_cases ha : srv a p.1 p.2
      · refine ⟨0, k + 1, Nat.zero_le _, by simpa using hk, ?_, ?_⟩
        · rw [homeL, if_pos ha, e0, e1]
        · rw [homeL, if_neg hb, h2, es, ei]
      · refine ⟨j + 1, k + 1, by omega, by simpa using hk, ?_, ?_⟩
        · rw [homeL, if_neg ha, h1, es, ei]
        · rw [homeL, if_neg hb, h2, es, ei]
theorem nthL_at : ∀ (l : List (Int × Int)) (i k : Int), 0 ≤ k → nthL l i k = (0, 0, 290) ∨
    ∃ (j : Nat) (m c : Int), l[j]? = some (m, c) ∧ nthL l i k = (i + j, k - cntL (l.take j), 0) ∧ 0 ≤ k - cntL (l.take j) ∧ k - cntL (l.take j) < c := by
  intro l
  induction l with
  | nil => intro i k h; exact .inl rfl
  | cons p r ih =>
    intro i k h
    by_cases hp : k < p.2
    · refine .inr ⟨0, p.1, p.2, rfl, ?_, ?_, ?_⟩
      · rw [nthL, if_pos hp]; simp [cntL]
      · simpa [cntL] using h
      · simpa [cntL] using hp
    · rw [nthL, if_neg hp]
      rcases ih (i + 1) (k - p.2) (by omega) with h1 | ⟨j, m, c, h1, h2, h3, h4⟩
      · exact .inl h1
      · have es : k - p.2 - cntL (r.take j) = k - cntL ((p :: r).take (j + 1)) := by rw [List.take_succ_cons, cntL_cons]; omega
        refine .inr ⟨j + 1, m, c, by simpa using h1, ?_, by omega, by omega⟩
        rw [h2, es]
        congr 1
        push_cast
        omega
/-- two keys, and where they stand -/
theorem homT_two {l : Int} {ms cs : List Int} {a b : Int} (hab : a ≤ b) (hmay : ixMay l ms cs = true) :
    (homT l ms cs b = (0, 0, 6) ∧ ((homT l ms cs a).2.2 = 0 ∨ homT l ms cs a = (0, 0, 6))) ∨
    ∃ j k : Nat, ∃ n q : Int, homT l ms cs a = ((j : Int), n, 0) ∧ homT l ms cs b = ((k : Int), q, 0) ∧ (j : Int) ≤ k ∧ n ≤ q ∧ ahT l ms cs j = (n, 0) ∧ ahT l ms cs k = (q, 0) := by
  obtain ⟨L, D, N, F, hl, h1, h2, hN, hD, hF, hNF, hFb, hF0, hL, hLD, hlm, hlc, hg⟩ := ixMay_parts hmay
  have hls : lvsR l ms cs = lvs (tlF L ms) (tlF L cs) D 1 := by rw [lvsR, hLD, hL]
  have hln : (lvsR l ms cs).length = F := by rw [hls, lvs_length, hF]
  have hnn : ∀ p ∈ lvsR l ms cs, 0 ≤ p.2 := by rw [hls]; exact hg.nonneg
  have h2F : (2 : Int) ^ (l.toNat - 1) = (F : Int) := by rw [hLD, ← hF]; push_cast; rfl
  have ea : ∀ k, homT l ms cs k = homeL k (lvsR l ms cs) 0 0 := fun k => if_pos hmay
  have eh : ∀ k : Nat, k < F → ahT l ms cs k = (cntL ((lvsR l ms cs).take k), 0) := fun k hk => by
    rw [ahT, if_pos hmay, if_neg (by omega), Int.toNat_natCast]
  rcases homeL_err (key := b) (lvsR l ms cs) 0 0 with hb | hb
  · obtain ⟨j, k, hjk, hk, e1, e2⟩ := homeL_two hab (lvsR l ms cs) 0 0 hb
    simp only [Int.zero_add] at e1 e2
    exact .inr ⟨j, k, _, _, (ea a).trans e1, (ea b).trans e2, by omega, cntL_take_mono hnn hjk, eh j (by omega), eh k (by omega)⟩
  · refine .inl ⟨(ea b).trans hb, ?_⟩
    rw [ea a]
    exact homeL_err _ _ _
/-- a number, and the leaf that it leads to -/
theorem nthT_at {l k : Int} {ms cs : List Int} : (nthT l ms cs k = (0, 0, 8) ∨ nthT l ms cs k = (0, 0, 290)) ∨
    ∃ (j n F : Nat) (r c a : Int), nthT l ms cs k = ((j : Int), r, 0) ∧ 0 ≤ r ∧ r < c ∧ ahT l ms cs j = (a, 0) ∧ a + r = k ∧ 0 ≤ a ∧ a ≤ 65536 ∧ lfE l j = 0 ∧ lfR l j = n ∧ atC l ms cs n = c ∧ atE l ms cs n = 0 := by
  by_cases hmay : ixMay l ms cs = true
  · by_cases hk : k < 0
    · exact .inl (.inr (by rw [nthT, if_pos hmay, if_pos hk]))
    · obtain ⟨L, D, N, F, hl, h1, h2, hN, hD, hF, hNF, hFb, hF0, hL, hLD, hlm, hlc, hg⟩ := ixMay_parts hmay
      have hls : lvsR l ms cs = lvs (tlF L ms) (tlF L cs) D 1 := by rw [lvsR, hLD, hL]
      have hln : (lvsR l ms cs).length = F := by rw [hls, lvs_length, hF]
      have hnn : ∀ p ∈ lvsR l ms cs, 0 ≤ p.2 := by rw [hls]; exact hg.nonneg
      have h2F : (2 : Int) ^ (l.toNat - 1) = (F : Int) := by rw [hLD, ← hF]; push_cast; rfl
      have h2L : (2 : Int) ^ l.toNat = (N : Int) + 1 := by
        have : (2 : Int) ^ l.toNat = ((2 ^ L : Nat) : Int) := by rw [hL]; push_cast; rfl
        rw [this]; omega
      have ek : nthT l ms cs k = nthL (lvsR l ms cs) 0 k := by rw [nthT, if_pos hmay, if_neg hk]
      rcases nthL_at (lvsR l ms cs) 0 k (by omega) with h | ⟨j, m, c, hj, h3, h4, h5⟩
      · exact .inl (.inr (ek.trans h))
      · have hjF : j < F := by rw [← hln]; exact (List.getElem?_eq_some_iff.1 hj).1
        have hlv := lvs_get (f := tlF L ms) (g := tlF L cs) D 1 j (by omega)
        rw [← hls, hj, Nat.one_mul, hF] at hlv
        have hc : c = tlF L cs (F + j) := by
          have := Option.some.inj hlv
          exact (Prod.mk.inj this).2
        have hlE : lfE l j = 0 := if_pos ⟨by omega, by omega, by rw [h2F]; omega⟩
        have hlR : lfR l j = ((F + j : Nat) : Int) := by rw [lfR, if_pos hlE, h2F]; push_cast; rfl
        have hnd : ndE l ((F + j : Nat) : Int) = 0 := if_pos ⟨by omega, by omega, by rw [h2L]; omega⟩
        have h0 := cntL_nn (l := (lvsR l ms cs).take j) fun p hp => hnn p (List.mem_of_mem_take hp)
        have htot : cntL ((lvsR l ms cs).take j) ≤ cntL ((lvsR l ms cs).take F) := cntL_take_mono hnn (by omega)
        rw [List.take_of_length_le (by omega : (lvsR l ms cs).length ≤ F), hls, hg.cnt, ← hls] at htot
        have ho := own_facts hg.own
        simp only [Int.zero_add] at h3
        have hat : atE l ms cs ((F + j : Nat) : Int) = 0 := by rw [atE, if_pos hmay, if_pos ⟨by omega, by rw [h2L]; omega⟩]
        refine .inr ⟨j, F + j, F, _, c, cntL ((lvsR l ms cs).take j), ek.trans h3, h4, h5, ?_, by omega, h0, by omega, hlE, hlR, ?_, ?_⟩
        · rw [ahT, if_pos hmay, if_neg (by omega), Int.toNat_natCast]
        · rw [atC, if_pos hat, hL, Int.toNat_natCast, hc]
        · exact hat
  · exact .inl (.inl (by rw [nthT, if_neg hmay]))
end Go.Proofs.Ytfmoghjddfjfmaa
