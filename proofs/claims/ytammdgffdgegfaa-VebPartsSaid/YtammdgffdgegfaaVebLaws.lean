/- Places and nodes of the layout go there and back; upper and lower parts; small cases by reckoning. Plain. -/
import Derived.Test.YtammdgffdgegfaaVebNear
namespace Go.Proofs.Ytammdgffdgegfaa
open Go.RowKit Go.Shelf
set_option linter.unusedVariables false
set_option linter.unusedSimpArgs false

theorem pow_cast (L : Nat) : ((2 ^ L : Nat) : Int) = 2 ^ L := by push_cast; rfl
theorem veb_there {l n : Int} (h : ndE l n = 0) : vnE l (vpR l n) = 0 ∧ vnR l (vpR l n) = n := by
  obtain ⟨h1, h2, h3, h4⟩ := ndE_zero h
  obtain ⟨N, rfl⟩ := Int.eq_ofNat_of_zero_le (show 0 ≤ n by omega)
  obtain ⟨L, rfl⟩ := Int.eq_ofNat_of_zero_le (show 0 ≤ l by omega)
  simp only [Int.toNat_natCast] at h4
  have hc := pow_cast L
  obtain ⟨a, b⟩ := vpos_lay (L := L) (n := N) (by omega) (by omega) (by omega)
  have e : vpR L N = (vpos L N : Nat) := by rw [vpR, h]; rfl
  have hn := pow_nat L
  have e2 : vnE L (vpos L N : Nat) = 0 := by
    rw [vnE, if_pos]
    exact ⟨⟨h1, h2⟩, by omega, by simp only [Int.toNat_natCast]; omega⟩
  rw [e, vnR, e2]
  exact ⟨rfl, by rw [if_pos rfl, Int.toNat_natCast, Int.toNat_natCast, b]⟩
theorem veb_back {l a : Int} (h : vnE l a = 0) : ndE l (vnR l a) = 0 ∧ vpR l (vnR l a) = a := by
  obtain ⟨h1, h2, h3, h4⟩ := vnE_zero h
  obtain ⟨A, rfl⟩ := Int.eq_ofNat_of_zero_le h3
  obtain ⟨L, rfl⟩ := Int.eq_ofNat_of_zero_le (show 0 ≤ l by omega)
  simp only [Int.toNat_natCast] at h4
  have hn := pow_nat L
  have hc := pow_cast L
  have hA : A < 2 ^ L - 1 := by omega
  obtain ⟨b1, b2⟩ := lay_in (L := L) (k := A) (by omega) hA
  have hp := lay_vpos (L := L) (p := A) (by omega) hA
  have e : vnR L A = ((lay L 1).getD A 0 : Nat) := by rw [vnR, h]; rfl
  have hnd : ndE L ((lay L 1).getD A 0 : Nat) = 0 := ndE_ok h1 h2 (by omega) (by simp only [Int.toNat_natCast]; omega)
  rw [e]
  refine ⟨hnd, ?_⟩
  rw [vpR, hnd, if_pos rfl, Int.toNat_natCast, Int.toNat_natCast, hp]

theorem pos_zero (L : Nat) : pos L 0 0 = 0 := by
  induction L using Nat.strongRecOn with
  | ind L ih =>
    by_cases h : L ≤ 1
    · rw [pos]; simp [h]
    · rw [pos_up 0 (by omega) (by omega)]; exact ih _ (by omega)

/-- a node of the upper part -/
theorem veb_upper {L u n : Nat} (h1 : 2 ≤ L) (hu : L / 2 = u) (hn : 1 ≤ n) (hd : n.log2 < u) : vpos L n = vpos u n ∧ n < 2 ^ u ∧ vpos u n < 2 ^ u - 1 := by
  have hlt : n < 2 ^ u := (Nat.log2_lt (by omega)).1 hd
  refine ⟨?_, hlt, (vpos_lay (by omega) hn hlt).1⟩
  rw [vpos, pos_up _ h1 (by rw [hu]; exact hd), hu]; rfl
/-- a node of a lower part: its root, and where that part begins -/
theorem veb_lower {L u v n : Nat} (h1 : 2 ≤ L) (hu : L / 2 = u) (hv : L - u = v) (hn : 1 ≤ n) (hL : n < 2 ^ L) (hd : ¬ n.log2 < u) :
    ∃ i, n / 2 ^ (n.log2 - u) = 2 ^ u + i ∧ i < 2 ^ u ∧ vpos L (2 ^ u + i) = 2 ^ u - 1 + i * (2 ^ v - 1) ∧ 2 ^ u - 1 + i * (2 ^ v - 1) ≤ vpos L n ∧ vpos L n < 2 ^ u - 1 + i * (2 ^ v - 1) + (2 ^ v - 1) := by
  obtain ⟨d1, d2⟩ := node_dj hn
  have hdL : n.log2 < L := log2_lt_of hn hL
  obtain ⟨f, hf⟩ : ∃ f, n.log2 = u + f := ⟨n.log2 - u, by omega⟩
  have hp := pos_low (L := L) (d := n.log2) (n - 2 ^ n.log2) h1 (by rw [hu]; exact hd)
  rw [hu, hv] at hp
  have hf2 : n.log2 - u = f := by omega
  have hpf := Nat.two_pow_pos f
  rw [hf2] at hp
  have hi : (n - 2 ^ n.log2) / 2 ^ f < 2 ^ u := by
    rw [Nat.div_lt_iff_lt_mul hpf, ← Nat.pow_add, ← hf]; exact d2
  refine ⟨(n - 2 ^ n.log2) / 2 ^ f, ?_, hi, ?_, ?_, ?_⟩
  · rw [hf2]
    have e1 : n = (n - 2 ^ n.log2) + 2 ^ u * 2 ^ f := by rw [← Nat.pow_add, ← hf]; omega
    conv => lhs; rw [e1]
    rw [Nat.add_mul_div_right _ _ hpf]; omega
  · rw [vpos, log2_dj hi, Nat.add_sub_cancel_left, pos_low _ h1 (by rw [hu]; omega), hu, hv, Nat.sub_self, Nat.pow_zero, Nat.div_one, Nat.mod_one, pos_zero, Nat.add_zero]
  · rw [vpos, hp]; omega
  · obtain ⟨b, -⟩ := lay_pos' v v f ((n - 2 ^ n.log2) % 2 ^ f) 1 (Nat.le_refl _) (by omega) (by omega) (Nat.mod_lt _ hpf)
    rw [vpos, hp]; omega

/-- small cases, by reckoning -/
def posF : Nat → Nat → Nat → Nat → Nat
  | 0, _, _, _ => 0
  | f + 1, L, d, j => if L ≤ 1 then 0 else if d < L / 2 then posF f (L / 2) d j else 2 ^ (L / 2) - 1 + j / 2 ^ (d - L / 2) * (2 ^ (L - L / 2) - 1) + posF f (L - L / 2) (d - L / 2) (j % 2 ^ (d - L / 2))
theorem posF_eq : ∀ f L d j, L ≤ f → pos L d j = posF f L d j := by
  intro f
  induction f with
  | zero => intro L d j h; rw [pos]; simp [show L ≤ 1 by omega, posF]
  | succ f ih =>
    intro L d j h
    rw [posF]
    by_cases hL : L ≤ 1
    · rw [pos]; simp [hL]
    · rw [if_neg hL]
      by_cases hd : d < L / 2
      · rw [pos_up j (by omega) hd, if_pos hd]; exact ih _ _ _ (by omega)
      · rw [pos_low j (by omega) hd, if_neg hd, ih _ _ _ (by omega)]
def vposF (L n : Nat) : Nat := posF L L n.log2 (n - 2 ^ n.log2)
theorem vposF_eq (L n : Nat) : vpos L n = vposF L n := posF_eq _ _ _ _ (Nat.le_refl _)
def pthF : Nat → Nat → List Nat
  | 0, _ => [1]
  | f + 1, n => if n ≤ 1 then [1] else pthF f (n / 2) ++ [n]
theorem pthF_eq : ∀ f n, n < 2 ^ (f + 1) → pth n = pthF f n := by
  intro f
  induction f with
  | zero => intro n h; rw [pth_one (by simp at h; omega)]; rfl
  | succ f ih =>
    intro n h
    rw [pthF]
    by_cases hn : n ≤ 1
    · rw [pth_one hn, if_pos hn]
    · rw [pth_two (by omega), if_neg hn, ih _ (by rw [Nat.pow_succ] at h; omega)]
def layF : Nat → Nat → Nat → List Nat
  | 0, _, r => [r]
  | f + 1, L, r => if L ≤ 1 then [r] else layF f (L / 2) r ++ (List.range (2 ^ (L / 2))).flatMap fun i => layF f (L - L / 2) (r * 2 ^ (L / 2) + i)
theorem layF_eq : ∀ f L r, L ≤ f → lay L r = layF f L r := by
  intro f
  induction f with
  | zero => intro L r h; rw [lay]; simp [show L ≤ 1 by omega, layF]
  | succ f ih =>
    intro L r h
    rw [layF]
    by_cases hL : L ≤ 1
    · rw [lay]; simp [hL]
    · rw [lay_two (by omega), if_neg hL, ih _ _ (by omega)]
      congr 1
      congr 1
      funext i
      exact ih _ _ (by omega)
def nearF (L n run : Nat) : Nat := nearN ((pthF 13 n).map fun x => (vposF L x : Int) / run) (n.log2 + 1)
theorem nearF_eq {L n run : Nat} (h : n < 2 ^ 14) : nearN (runsOf L n run) (n.log2 + 1) = nearF L n run := by
  rw [nearF, runsOf, pthF_eq 13 n h]
  congr 2
  funext x
  rw [vposF_eq]
end Go.Proofs.Ytammdgffdgegfaa
