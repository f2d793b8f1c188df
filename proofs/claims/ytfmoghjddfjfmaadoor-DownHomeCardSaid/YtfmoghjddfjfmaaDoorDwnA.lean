/- Merged: DownAhead, DownAlive. -/
import Derived.Test.YtfmoghjddfjfmaaDoorDwnP
import Derived.Test.YtfmoghjddfjfmaaDoorIdxMy
import Derived.Test.YtfmoghjddfjfmaaDoorIdxCk
import Derived.Test.YtfmoghjddfjfmaaDoorHeapUF
import Derived.Test.YtfmoghjddfjfmaaDoorHeapDp
import Derived.Test.YtfmoghjddfjfmaaDoorVebPlace
import Derived.Test.YtfmoghjddfjfmaaDoorChap19
import Derived.Test.YtfmoghjddfjfmaaDoorDwnW
namespace Go.Proofs.YtfmoghjddfjfmaaDoor
set_option linter.unusedVariables false
set_option linter.unusedSimpArgs false
section
open Go.RowKit

theorem cntL_nonneg {l : List (Int × Int)} (h : ∀ p ∈ l, 0 ≤ p.2) : 0 ≤ cntL l := by
  induction l with
  | nil => simp [cntL]
  | cons p r ih =>
    rw [cntL_cons]
    have h1 := h p (by simp)
    have h2 := ih fun q hq => h q (by simp [hq])
    omega
theorem cntL_take {l : List (Int × Int)} (h : ∀ p ∈ l, 0 ≤ p.2) (n : Nat) : 0 ≤ cntL (l.take n) ∧ cntL (l.take n) ≤ cntL l := by
  have h1 := cntL_nonneg (l := l.take n) fun q hq => h q (List.mem_of_mem_take hq)
  have h2 := cntL_nonneg (l := l.drop n) fun q hq => h q (List.mem_of_mem_drop hq)
  have h3 := cntL_append (l.take n) (l.drop n)
  rw [List.take_append_drop] at h3
  omega
/-- how many keys stand ahead of the leaves of a node, the k-th from the root on the way to a leaf -/
def ahK (f g : Nat → Int) (D n k : Nat) : Int := cntL ((lvs f g D 1).take (n / 2 ^ (D - k) * 2 ^ (D - k) - 2 ^ D))
theorem node_le {n D k : Nat} (h2 : n < 2 * 2 ^ D) (hk : k ≤ D) : (n / 2 ^ (D - k) + 1) * 2 ^ (D - k) ≤ 2 * 2 ^ D := by
  have e : 2 * 2 ^ D = 2 ^ (k + 1) * 2 ^ (D - k) := by rw [← Nat.pow_add, show k + 1 + (D - k) = D + 1 by omega, Nat.pow_succ, Nat.mul_comm]
  rw [e] at h2 ⊢
  exact Nat.mul_le_mul_right _ ((Nat.div_lt_iff_lt_mul (Nat.two_pow_pos _)).2 h2)
theorem node_ge {n D k : Nat} (h1 : 2 ^ D ≤ n) (hk : k ≤ D) : 2 ^ D ≤ n / 2 ^ (D - k) * 2 ^ (D - k) := by
  have e : 2 ^ D = 2 ^ k * 2 ^ (D - k) := by rw [← Nat.pow_add, show k + (D - k) = D by omega]
  rw [e] at h1 ⊢
  exact Nat.mul_le_mul_right _ ((Nat.le_div_iff_mul_le (Nat.two_pow_pos _)).2 h1)
theorem ahK_bd {f g : Nat → Int} {D : Nat} (hg : Good f g D 1) (n k : Nat) : 0 ≤ ahK f g D n k ∧ ahK f g D n k ≤ 65536 := by
  have h := cntL_take (l := lvs f g D 1) hg.nonneg (n / 2 ^ (D - k) * 2 ^ (D - k) - 2 ^ D)
  rw [hg.cnt] at h
  have := own_facts hg.own
  unfold ahK
  omega
theorem ahK_zero {f g : Nat → Int} {D n : Nat} (h1 : 2 ^ D ≤ n) (h2 : n < 2 * 2 ^ D) : ahK f g D n 0 = 0 := by
  have : n / 2 ^ D = 1 := by
    rw [Nat.div_eq_of_lt_le] <;> omega
  rw [ahK, Nat.sub_zero, this, Nat.one_mul, Nat.sub_self]
  rfl
theorem ahK_last {f g : Nat → Int} {D n : Nat} : ahK f g D n D = cntL ((lvs f g D 1).take (n - 2 ^ D)) := by
  rw [ahK, Nat.sub_self, Nat.pow_zero, Nat.div_one, Nat.mul_one]
/-- one step down: an odd node has the leaves of the one to its left ahead, too -/
theorem ahK_succ {f g : Nat → Int} {D n k m : Nat} (hgd : ∀ d m, d ≤ D → 2 ^ (D - d) ≤ m → m < 2 ^ (D + 1 - d) → Good f g d m) (h1 : 2 ^ D ≤ n) (h2 : n < 2 * 2 ^ D) (hk : k + 1 ≤ D) (hm : n / 2 ^ (D - (k + 1)) = m) :
    ahK f g D n (k + 1) = if m % 2 = 1 then ahK f g D n k + g (m - 1) else ahK f g D n k := by
  obtain ⟨d, hd⟩ : ∃ d, D - (k + 1) = d := ⟨_, rfl⟩
  have hd1 : D - k = d + 1 := by omega
  have hp : n / 2 ^ (D - k) = m / 2 := by rw [hd1, ← hm, hd, half_pow]
  have hm1 := node_ge h1 hk
  have hm2 := node_le h2 hk
  have hl := node_ge (k := k) h1 (by omega)
  rw [hm, hd] at hm1 hm2
  rw [ahK, ahK, hp, hm, hd, hd1]
  rw [hp, hd1] at hl
  have e1 : m / 2 * 2 ^ (d + 1) = m / 2 * 2 * 2 ^ d := by rw [Nat.pow_succ, Nat.mul_comm (2 ^ d) 2, ← Nat.mul_assoc]
  rw [e1] at hl ⊢
  split
  · rename_i ho
    have e2 : m / 2 * 2 = m - 1 := by omega
    rw [e2] at hl ⊢
    have hb1 : 2 ^ (D - d) ≤ m - 1 := by
      have : 2 ^ D = 2 ^ (D - d) * 2 ^ d := by rw [← Nat.pow_add, show D - d + d = D by omega]
      rw [this] at hl
      exact Nat.le_of_mul_le_mul_right hl (Nat.two_pow_pos d)
    have hb2 : m - 1 < 2 ^ (D + 1 - d) := by
      have : 2 * 2 ^ D = 2 ^ (D + 1 - d) * 2 ^ d := by rw [← Nat.pow_add, show D + 1 - d + d = D + 1 by omega, Nat.pow_succ, Nat.mul_comm]
      rw [this] at hm2
      have := Nat.le_of_mul_le_mul_right hm2 (Nat.two_pow_pos d)
      omega
    have e3 : m * 2 ^ d = (m - 1) * 2 ^ d + 2 ^ d := by rw [show m * 2 ^ d = (m - 1 + 1) * 2 ^ d by rw [show m - 1 + 1 = m by omega], Nat.add_mul, Nat.one_mul]
    have hb3 : (m - 1 + 1) * 2 ^ d ≤ 2 * 2 ^ D := by rw [Nat.add_mul] at hm2 ⊢; omega
    have := (hgd d (m - 1) (by omega) hb1 hb2).ahead (D := D) (by omega) hl hb3
    rw [e3, show (m - 1) * 2 ^ d + 2 ^ d - 2 ^ D = (m - 1) * 2 ^ d - 2 ^ D + 2 ^ d by omega]
    exact this
  · rename_i ho
    rw [show m / 2 * 2 = m by omega]

set_option maxRecDepth 100000 in
set_option maxHeartbeats 1000000 in
theorem Ahead_ix (l k : Int) (ma ca : Option Addr) (mc cc : Nat) (ms cs : List Int) (w : World) (hm : IsRow .i64 w ma ms) (hc : IsRow .i64 w ca cs) :
    Calls Tryd.prog 11 #[ixV l ma ms.length mc ca cs.length cc, .int .i64 k] w (Ans w (.tuple #[.int .i64 (ahT l ms cs k).1, .int .i64 (ahT l ms cs k).2])) := by
  have CK := Lib.hid (fun (W : World) (hb : Below w.heap.size w W) => Check_ix l ma ca mc cc ms cs W (hm.below hb) (hc.below hb))
  by_cases hmay : ixMay l ms cs = true
  · have e0 : ixE l ms cs = 0 := if_pos hmay
    obtain ⟨L, D, N, F, hl, h1, h2, hN, hD, hF, hNF, hFb, hF0, hL, hLD, hlm, hlc, hg⟩ := ixMay_parts hmay
    have hLF := Lib.hid (fun w => Leaf_any l k w)
    have h2F : (2 : Int) ^ (l.toNat - 1) = (F : Int) := by rw [hLD, ← hF]; push_cast; rfl
    have h2L : (2 : Int) ^ l.toNat = (N : Int) + 1 := by
      have : (2 : Int) ^ l.toNat = ((2 ^ L : Nat) : Int) := by rw [hL]; push_cast; rfl
      rw [this]; omega
    rw [hlm, hlc, e0] at CK
    rw [hlm, hlc]
    by_cases hk : 0 ≤ k ∧ k < F
    · obtain ⟨j, rfl⟩ : ∃ j : Nat, k = j := ⟨k.toNat, by omega⟩
      obtain ⟨n, hn⟩ : ∃ n, n = F + j := ⟨_, rfl⟩
      have hlE : lfE l j = 0 := if_pos ⟨by omega, hk.1, by rw [h2F]; exact hk.2⟩
      have hlR : lfR l j = (n : Int) := by rw [lfR, if_pos hlE, h2F]; omega
      rw [hlE, hlR] at hLF
      have hnL : n < 2 ^ L := by omega
      have hn0 : 1 ≤ n := by omega
      have hlog : n.log2 = D := by
        apply (Nat.log2_eq_iff (by omega)).2
        constructor
        · omega
        · rw [Nat.pow_succ]; omega
      have hnd : ndE l n = 0 := if_pos ⟨by omega, by omega, by rw [h2L]; omega⟩
      have hPT := Lib.hid (fun w => Path_any l n w)
      have hpt : ptR l n = ints (pth n) := by rw [ptR, if_pos hnd]; rfl
      rw [hnd, hpt] at hPT
      have hpl : (ints (pth n)).length = D + 1 := by rw [ints_length, pth_length, hlog]
      have hps : ∀ i, i ≤ D → (ints (pth n)).getD i 0 = ((n / 2 ^ (D - i) : Nat) : Int) := by
        intro i hi
        have := pth_get n hn0 (D - i) (by omega)
        rw [hlog, show D - (D - i) = i by omega] at this
        rw [← this]
        simp [ints, List.getD_eq_getElem?_getD, List.getElem?_map]
        cases h : (pth n)[i]? <;> simp
      have hsib : ∀ i, i < D → n / 2 ^ (D - (i + 1)) % 2 = 1 → ∃ p : Nat, p < N ∧ vpR l ((n / 2 ^ (D - (i + 1)) : Nat) - 1 : Int) = p ∧ ndE l ((n / 2 ^ (D - (i + 1)) : Nat) - 1 : Int) = 0 ∧ cs.getD p 0 = tlF L cs (n / 2 ^ (D - (i + 1)) - 1) := by
        intro i hi hodd
        obtain ⟨m, hm⟩ : ∃ m, n / 2 ^ (D - (i + 1)) = m := ⟨_, rfl⟩
        rw [hm] at hodd ⊢
        have hm2 : 2 ≤ m := by
          rw [← hm]
          have := node_ge (n := n) (D := D) (k := i + 1) (by omega) (by omega)
          rw [hm] at this
          have e : 2 ^ D = 2 ^ (i + 1) * 2 ^ (D - (i + 1)) := by rw [← Nat.pow_add]; congr 1; omega
          rw [e] at this
          have := Nat.le_of_mul_le_mul_right this (Nat.two_pow_pos _)
          rw [hm]
          have : 2 ^ 1 ≤ 2 ^ (i + 1) := Nat.pow_le_pow_right (by omega) (by omega)
          omega
        have hmn : m ≤ n := by rw [← hm]; exact Nat.div_le_self _ _
        have hd0 : ndE l ((m : Int) - 1) = 0 := if_pos ⟨by omega, by omega, by rw [h2L]; omega⟩
        have hv := (vpos_lay h1 (by omega : 1 ≤ m - 1) (by omega : m - 1 < 2 ^ L)).1
        refine ⟨vpos L (m - 1), by omega, ?_, hd0, ?_⟩
        · unfold vpR
          rw [if_pos hd0, hL, show ((m : Int) - 1).toNat = m - 1 by omega]
        · rw [tlF, if_neg (by omega), pcF, if_neg (by omega), plc_get h1 (by omega) (by omega)]
          rfl
      have hgd : ∀ d m, d ≤ D → 2 ^ (D - d) ≤ m → m < 2 ^ (D + 1 - d) → Good (tlF L ms) (tlF L cs) d m := by
        unfold ixMay at hmay
        rw [Bool.and_eq_true] at hmay
        intro d m hd ha hb
        have := hmay.2
        rw [hL] at this
        exact good_at this d m (by omega) (by rw [show L - 1 - d = D - d by omega]; exact ha) (by rw [show L - d = D + 1 - d by omega]; exact hb)
      have hres : ahT l ms cs j = (ahK (tlF L ms) (tlF L cs) D n D, 0) := by
        rw [ahT, if_pos hmay, if_neg (by rw [h2F]; omega), ahK_last, lvsR, hLD, hL, hn, hF]
        congr 3
        omega
      rw [hres]
      have hz := ahK_zero (f := tlF L ms) (g := tlF L cs) (D := D) (n := n) (by omega) (by omega)
      have hS := Lib.hid (fun i m (hi : i + 1 ≤ D) (hm : n / 2 ^ (D - (i + 1)) = m) => ahK_succ (k := i) hgd (by omega) (by omega : n < 2 * 2 ^ D) hi hm)
      have hB := Lib.hid (fun i => ahK_bd hg n i)
      have HPS := Lib.hid hps
      have HSB := Lib.hid hsib
      have HPL := Lib.hid hpl
      have HC := Lib.hid hc
      have HLC := Lib.hid hlc
      have PL := Lib.hid (Place_any l)
      have hDb : D ≤ 13 := by omega
      have hnb : n ≤ 16384 := by omega
      generalize ints (pth n) = ps at *
      generalize ahK (tlF L ms) (tlF L cs) D n = A at *
      generalize tlF L cs = G at *
      clear hres hgd hsib hps hnd hlog hnL hn0 hlE hlR hmay hN hF hL hLD hlm hg h1 h2 hNF h2F h2L hpt hc hm hk hn hl e0 hpl hD hlc
      go_enter Tryd.func11, Tryd.ntmps11
      go_wp2_with fail
      refine (CK.out _ (by (repeat (first | (with_reducible exact Below.refl _ _) | (with_reducible assumption) | (with_reducible exact Hid.out (by with_reducible assumption)) | (with_reducible refine Below.alloc ?_ ?_ _) | (with_reducible refine Below.setCell ?_ ?_ _) | (with_reducible refine below_drewN ?_ _) | (with_reducible refine Below.drew ?_) | (with_reducible refine below_via (by with_reducible assumption) ?_ ?_) | (first | (with_reducible assumption) | omega | (simp only [World.size_alloc, World.size_setCell, World.size_drew, World.heap_drewN] <;> omega) | (simp <;> omega)))))).mono ?_
      rintro e w1 ⟨rfl, hb1⟩
      have hz_w1 := hb1.size
      try simp only [World.size_alloc, World.size_setCell] at hz_w1
      have c_t0 : w1.cell? ⟨w.heap.size, 0, none⟩ = some (.int .i64 l) := (hb1.cell (p := ⟨w.heap.size, 0, none⟩) (by (first | (with_reducible assumption) | omega | (simp only [World.size_alloc, World.size_setCell, World.size_drew, World.heap_drewN] <;> omega) | (simp <;> omega)))).trans (by (first | (with_reducible assumption) | ((try simp (disch := first | omega | (simp only [World.size_alloc, World.size_setCell, World.size_drew, World.heap_drewN] <;> omega) | fail) only [World.cell?_alloc_past, World.cell?_alloc_at, World.frozen?_alloc_past, World.frozen?_alloc_at, World.frozen?_setCell, World.cell?_drew, World.frozen?_drew]) <;> first | (with_reducible assumption) | rfl)))
      have c_t1 : w1.cell? ⟨w.heap.size, 1, none⟩ = some (.slice ma N mc) := (hb1.cell (p := ⟨w.heap.size, 1, none⟩) (by (first | (with_reducible assumption) | omega | (simp only [World.size_alloc, World.size_setCell, World.size_drew, World.heap_drewN] <;> omega) | (simp <;> omega)))).trans (by (first | (with_reducible assumption) | ((try simp (disch := first | omega | (simp only [World.size_alloc, World.size_setCell, World.size_drew, World.heap_drewN] <;> omega) | fail) only [World.cell?_alloc_past, World.cell?_alloc_at, World.frozen?_alloc_past, World.frozen?_alloc_at, World.frozen?_setCell, World.cell?_drew, World.frozen?_drew]) <;> first | (with_reducible assumption) | rfl)))
      have c_t2 : w1.cell? ⟨w.heap.size, 2, none⟩ = some (.slice ca N cc) := (hb1.cell (p := ⟨w.heap.size, 2, none⟩) (by (first | (with_reducible assumption) | omega | (simp only [World.size_alloc, World.size_setCell, World.size_drew, World.heap_drewN] <;> omega) | (simp <;> omega)))).trans (by (first | (with_reducible assumption) | ((try simp (disch := first | omega | (simp only [World.size_alloc, World.size_setCell, World.size_drew, World.heap_drewN] <;> omega) | fail) only [World.cell?_alloc_past, World.cell?_alloc_at, World.frozen?_alloc_past, World.frozen?_alloc_at, World.frozen?_setCell, World.cell?_drew, World.frozen?_drew]) <;> first | (with_reducible assumption) | rfl)))
      have z_t : w.heap.size < w1.heap.size := by omega
      have hB1 : Below w.heap.size w w1 := by (repeat (first | (with_reducible exact Below.refl _ _) | (with_reducible assumption) | (with_reducible exact Hid.out (by with_reducible assumption)) | (with_reducible refine Below.alloc ?_ ?_ _) | (with_reducible refine Below.setCell ?_ ?_ _) | (with_reducible refine below_drewN ?_ _) | (with_reducible refine Below.drew ?_) | (with_reducible refine below_via (by with_reducible assumption) ?_ ?_) | (first | (with_reducible assumption) | omega | (simp only [World.size_alloc, World.size_setCell, World.size_drew, World.heap_drewN] <;> omega) | (simp <;> omega))))
      go_wp2_with (go_at_call 28; refine (hLF.out _).mono ?_; rintro e w' ⟨rfl, rfl⟩)
      go_wp2_with (go_at_call 29; refine (hPT.out _).mono ?_; rintro e w2 ⟨v, rfl, ho, hb2⟩)
      obtain ⟨pa, pcap, rfl, hi, hbl, hpn, hpc, hpl⟩ := row_of_owns ho
      have hps0 : 0 < ps.length := by have := HPL.out; omega
      obtain ⟨pb, po, px, rfl, hpx, dpx, hpz⟩ := hi.get (i := 0) hps0
      have hbl' := hbl _ rfl
      obtain ⟨hb0, hb1', hpo, -⟩ := hbl'
      dsimp only at hb0 hb1' hpo
      subst hpo
      have hz_w2 := hb2.size
      try simp only [World.size_alloc, World.size_setCell] at hz_w2
      replace c_t0 : w2.cell? ⟨w.heap.size, 0, none⟩ = some (.int .i64 l) := (hb2.cell (p := ⟨w.heap.size, 0, none⟩) (by (first | (with_reducible assumption) | omega | (simp only [World.size_alloc, World.size_setCell, World.size_drew, World.heap_drewN] <;> omega) | (simp <;> omega)))).trans (by (first | (with_reducible assumption) | ((try simp (disch := first | omega | (simp only [World.size_alloc, World.size_setCell, World.size_drew, World.heap_drewN] <;> omega) | fail) only [World.cell?_alloc_past, World.cell?_alloc_at, World.frozen?_alloc_past, World.frozen?_alloc_at, World.frozen?_setCell, World.cell?_drew, World.frozen?_drew]) <;> first | (with_reducible assumption) | rfl)))
      replace c_t1 : w2.cell? ⟨w.heap.size, 1, none⟩ = some (.slice ma N mc) := (hb2.cell (p := ⟨w.heap.size, 1, none⟩) (by (first | (with_reducible assumption) | omega | (simp only [World.size_alloc, World.size_setCell, World.size_drew, World.heap_drewN] <;> omega) | (simp <;> omega)))).trans (by (first | (with_reducible assumption) | ((try simp (disch := first | omega | (simp only [World.size_alloc, World.size_setCell, World.size_drew, World.heap_drewN] <;> omega) | fail) only [World.cell?_alloc_past, World.cell?_alloc_at, World.frozen?_alloc_past, World.frozen?_alloc_at, World.frozen?_setCell, World.cell?_drew, World.frozen?_drew]) <;> first | (with_reducible assumption) | rfl)))
      replace c_t2 : w2.cell? ⟨w.heap.size, 2, none⟩ = some (.slice ca N cc) := (hb2.cell (p := ⟨w.heap.size, 2, none⟩) (by (first | (with_reducible assumption) | omega | (simp only [World.size_alloc, World.size_setCell, World.size_drew, World.heap_drewN] <;> omega) | (simp <;> omega)))).trans (by (first | (with_reducible assumption) | ((try simp (disch := first | omega | (simp only [World.size_alloc, World.size_setCell, World.size_drew, World.heap_drewN] <;> omega) | fail) only [World.cell?_alloc_past, World.cell?_alloc_at, World.frozen?_alloc_past, World.frozen?_alloc_at, World.frozen?_setCell, World.cell?_drew, World.frozen?_drew]) <;> first | (with_reducible assumption) | rfl)))
      replace z_t : w.heap.size < w2.heap.size := by omega
      have HI := Lib.hid hi
      have HB2 := Lib.hid (below_via hb2 hB1 (by omega))
      have HZ := Lib.hid hz
      clear ho hi hbl hpn hpl dpx hpx hb2 hB1 hb1 hz hps0
      rw [HPL.out] at hpc ⊢
      have hsub : (D + 1 - 1 : Nat) = D := rfl
      have hq : (1 : Int) ≤ (D : Int) + 1 := by omega
      by_cases hcap : pcap = 1
      · subst hcap
        obtain rfl : D = 0 := by omega
        go_wp2
        go_loopg [11, 41] 0 (fun gk sv iv wr => iv = .int .i64 0 ∧ sv = .int .i64 0 ∧ Hid (Below w.heap.size w wr))
        case atStart => exact ⟨rfl, rfl, HB2⟩
        case round =>
          obtain ⟨rfl, rfl, HB⟩ := hrel
          go_wp2
          go_ret2
          rw [HZ.out]
          exact ⟨rfl, HB.out⟩
      go_wp2
      go_simp
      go_wp2
      go_loopg [11, 41] D (fun gk sv iv wr => ∃ i : Nat, i + gk = D ∧ iv = .int .i64 i ∧ sv = .int .i64 (A i) ∧ wr.cell? ⟨w.heap.size, 0, none⟩ = some (.int .i64 l) ∧ wr.cell? ⟨w.heap.size, 2, none⟩ = some (.slice ca N cc) ∧ Hid (Below w.heap.size w wr) ∧ Hid (Below w2.heap.size w2 wr))
      case atStart => exact ⟨0, by omega, rfl, by rw [HZ.out], c_t0, c_t2, HB2, Lib.hid (Below.refl _ _)⟩
      case round =>
        obtain ⟨i, hi, rfl, rfl, c0, c2, HB, HBP⟩ := hrel
        by_cases hlt : i < D
        · have HI2 := HI.out.below HBP.out
          obtain ⟨b', o', x, hbe, hx, hcx, -⟩ := HI2.get (i := i + 1) (by have := HPL.out; omega)
          cases hbe
          have hxv : x = ((n / 2 ^ (D - (i + 1)) : Nat) : Int) := by rw [← hx.out]; exact HPS.out _ (by omega)
          obtain ⟨m, hm⟩ : ∃ m, n / 2 ^ (D - (i + 1)) = m := ⟨_, rfl⟩
          rw [hm] at hxv
          subst hxv
          have hs := hS.out i m (by omega) hm
          have hsb := HSB.out i hlt
          rw [hm] at hsb
          have hmb : m ≤ 16384 := by have : n / 2 ^ (D - (i + 1)) ≤ n := Nat.div_le_self _ _; omega
          have hA := hB.out i
          have hA1 := hB.out (i + 1)
          rw [show 0 + (i + 1) = 1 + i by omega] at hcx
          have HG := Lib.hid hi
          clear hm hx HI2
          by_cases hodd : m % 2 = 1
          · obtain ⟨p, hpN, hv, hnd, hp⟩ := hsb hodd
            rw [if_pos hodd] at hs
            have hr : (m : Int) % 2 = 1 := by omega
            obtain ⟨b2, o2, y, rfl, hy, d2, -⟩ := (HC.out.below HB.out).get (i := p) (by have := HLC.out; omega)
            have hyG : y = G (m - 1) := by rw [← hy.out]; exact hp
            subst hyG
            have P2 := Lib.hid (PL.out ((m : Int) - 1))
            rw [hv, hnd] at P2
            have HS := Lib.hid hs
            rw [hs] at hA1
            clear hsb hv hnd hp hy hs
            have hz2 := HB.out.size
            have hz3 := HBP.out.size
            go_wp2_with fail
            refine (P2.out _).mono ?_
            rintro e w3 ⟨rfl, hb3⟩
            replace c0 := (hb3.cell (p := ⟨w.heap.size, 0, none⟩) (by dsimp only; omega)).trans c0
            replace c2 := (hb3.cell (p := ⟨w.heap.size, 2, none⟩) (by dsimp only; omega)).trans c2
            replace d2 := (hb3.cell (World.block_lt_of_cell? _ _ d2)).trans d2
            have HB3 := Lib.hid (below_via hb3 HB.out (by omega))
            have HBP3 := Lib.hid (below_via hb3 HBP.out hz3)
            clear hb3
            go_wp2
            go_roundg (gk - 1)
            case measure => omega
            case rel => exact ⟨i + 1, by have := HG.out; omega, by push_cast; rfl, by rw [HS.out], c0, c2, HB3, HBP3⟩
          · rw [if_neg hodd] at hs
            have hr : (m : Int) % 2 = 0 := by omega
            have HS := Lib.hid hs
            clear hsb hs hA1
            go_wp2
            go_roundg (gk - 1)
            case measure => omega
            case rel => exact ⟨i + 1, by have := HG.out; omega, by push_cast; rfl, by rw [HS.out], c0, c2, HB, HBP⟩
        · obtain rfl : i = D := by omega
          go_wp2
          go_ret2
          exact ⟨rfl, HB.out⟩
    · have hlE : lfE l k = 2 := if_neg (by rw [h2F]; omega)
      have hlR : lfR l k = 0 := by rw [lfR, hlE]; rfl
      have hres : ahT l ms cs k = (0, 2) := by rw [ahT, if_pos hmay, if_pos (by rw [h2F]; omega)]
      rw [hlE, hlR] at hLF
      rw [hres]
      clear hmay hN hF hL hLD hlm hlc hg h1 h2 hNF h2F h2L hm hc hl e0 hD hlE hlR hres hk
      go_enter Tryd.func11, Tryd.ntmps11
      go_wp2_with fail
      refine (CK.out _ (by (repeat (first | (with_reducible exact Below.refl _ _) | (with_reducible assumption) | (with_reducible exact Hid.out (by with_reducible assumption)) | (with_reducible refine Below.alloc ?_ ?_ _) | (with_reducible refine Below.setCell ?_ ?_ _) | (with_reducible refine below_drewN ?_ _) | (with_reducible refine Below.drew ?_) | (with_reducible refine below_via (by with_reducible assumption) ?_ ?_) | (first | (with_reducible assumption) | omega | (simp only [World.size_alloc, World.size_setCell, World.size_drew, World.heap_drewN] <;> omega) | (simp <;> omega)))))).mono ?_
      rintro e w1 ⟨rfl, hb1⟩
      have hz_w1 := hb1.size
      try simp only [World.size_alloc, World.size_setCell] at hz_w1
      replace c_t0 : w1.cell? ⟨w.heap.size, 0, none⟩ = some (.int .i64 l) := (hb1.cell (p := ⟨w.heap.size, 0, none⟩) (by (first | (with_reducible assumption) | omega | (simp only [World.size_alloc, World.size_setCell, World.size_drew, World.heap_drewN] <;> omega) | (simp <;> omega)))).trans (by (first | (with_reducible assumption) | ((try simp (disch := first | omega | (simp only [World.size_alloc, World.size_setCell, World.size_drew, World.heap_drewN] <;> omega) | fail) only [World.cell?_alloc_past, World.cell?_alloc_at, World.frozen?_alloc_past, World.frozen?_alloc_at, World.frozen?_setCell, World.cell?_drew, World.frozen?_drew]) <;> first | (with_reducible assumption) | rfl)))
      replace c_t1 : w1.cell? ⟨w.heap.size, 1, none⟩ = some (.slice ma N mc) := (hb1.cell (p := ⟨w.heap.size, 1, none⟩) (by (first | (with_reducible assumption) | omega | (simp only [World.size_alloc, World.size_setCell, World.size_drew, World.heap_drewN] <;> omega) | (simp <;> omega)))).trans (by (first | (with_reducible assumption) | ((try simp (disch := first | omega | (simp only [World.size_alloc, World.size_setCell, World.size_drew, World.heap_drewN] <;> omega) | fail) only [World.cell?_alloc_past, World.cell?_alloc_at, World.frozen?_alloc_past, World.frozen?_alloc_at, World.frozen?_setCell, World.cell?_drew, World.frozen?_drew]) <;> first | (with_reducible assumption) | rfl)))
      replace c_t2 : w1.cell? ⟨w.heap.size, 2, none⟩ = some (.slice ca N cc) := (hb1.cell (p := ⟨w.heap.size, 2, none⟩) (by (first | (with_reducible assumption) | omega | (simp only [World.size_alloc, World.size_setCell, World.size_drew, World.heap_drewN] <;> omega) | (simp <;> omega)))).trans (by (first | (with_reducible assumption) | ((try simp (disch := first | omega | (simp only [World.size_alloc, World.size_setCell, World.size_drew, World.heap_drewN] <;> omega) | fail) only [World.cell?_alloc_past, World.cell?_alloc_at, World.frozen?_alloc_past, World.frozen?_alloc_at, World.frozen?_setCell, World.cell?_drew, World.frozen?_drew]) <;> first | (with_reducible assumption) | rfl)))
      replace z_t : w.heap.size < w1.heap.size := by omega
      have hB1 : Below w.heap.size w w1 := by (repeat (first | (with_reducible exact Below.refl _ _) | (with_reducible assumption) | (with_reducible exact Hid.out (by with_reducible assumption)) | (with_reducible refine Below.alloc ?_ ?_ _) | (with_reducible refine Below.setCell ?_ ?_ _) | (with_reducible refine below_drewN ?_ _) | (with_reducible refine Below.drew ?_) | (with_reducible refine below_via (by with_reducible assumption) ?_ ?_) | (first | (with_reducible assumption) | omega | (simp only [World.size_alloc, World.size_setCell, World.size_drew, World.heap_drewN] <;> omega) | (simp <;> omega))))
      go_wp2_with (go_at_call 28; refine (hLF.out _).mono ?_; rintro e w' ⟨rfl, rfl⟩)
      go_ret2
      exact ⟨rfl, hB1⟩
  · have e0 : ixE l ms cs = 8 := if_neg hmay
    have et : ahT l ms cs k = (0, 8) := if_neg hmay
    rw [e0] at CK
    rw [et]
    clear e0 et hmay hm hc
    go_enter Tryd.func11, Tryd.ntmps11
    go_wp2_with fail
    refine (CK.out _ (by (repeat (first | (with_reducible exact Below.refl _ _) | (with_reducible assumption) | (with_reducible exact Hid.out (by with_reducible assumption)) | (with_reducible refine Below.alloc ?_ ?_ _) | (with_reducible refine Below.setCell ?_ ?_ _) | (with_reducible refine below_drewN ?_ _) | (with_reducible refine Below.drew ?_) | (with_reducible refine below_via (by with_reducible assumption) ?_ ?_) | (first | (with_reducible assumption) | omega | (simp only [World.size_alloc, World.size_setCell, World.size_drew, World.heap_drewN] <;> omega) | (simp <;> omega)))))).mono ?_
    rintro e w1 ⟨rfl, hb1⟩
    go_wp2
    go_ret2
    exact ⟨rfl, by (repeat (first | (with_reducible exact Below.refl _ _) | (with_reducible assumption) | (with_reducible exact Hid.out (by with_reducible assumption)) | (with_reducible refine Below.alloc ?_ ?_ _) | (with_reducible refine Below.setCell ?_ ?_ _) | (with_reducible refine below_drewN ?_ _) | (with_reducible refine Below.drew ?_) | (with_reducible refine below_via (by with_reducible assumption) ?_ ?_) | (first | (with_reducible assumption) | omega | (simp only [World.size_alloc, World.size_setCell, World.size_drew, World.heap_drewN] <;> omega) | (simp <;> omega))))⟩
end

section
open Go.RowKit

set_option maxHeartbeats 1000000 in
theorem home_of (l k p q : Int) (ma ca : Option Addr) (mc cc n1 n2 : Nat) (w : World) (H : Hid (∀ W, Below w.heap.size w W → Calls Tryd.prog 8 #[ixV l ma n1 mc ca n2 cc, .int .i64 k] W (AnsB W (.tuple #[.int .i64 p, .int .i64 q, .int .i64 0])))) :
    Calls Tryd.prog 12 #[ixV l ma n1 mc ca n2 cc, .int .i64 k, .int .i64 p, .int .i64 q] w (AnsB w (.bool true)) := by
  have g1 : (p == p) = true := by simp
  have g2 : (q == q) = true := by simp
  go_enter Tryd.func12, Tryd.ntmps12
  go_wp2_with fail
  refine (H.out _ ((Below.refl _ _).alloc (Nat.le_refl _) _)).mono ?_
  rintro e w1 ⟨rfl, hb1⟩
  have hz_w1 := hb1.size
  try simp only [World.size_alloc, World.size_setCell] at hz_w1
  have hB1 : Below w.heap.size w w1 := by (repeat (first | (with_reducible exact Below.refl _ _) | (with_reducible assumption) | (with_reducible exact Hid.out (by with_reducible assumption)) | (with_reducible refine Below.alloc ?_ ?_ _) | (with_reducible refine Below.setCell ?_ ?_ _) | (with_reducible refine below_drewN ?_ _) | (with_reducible refine Below.drew ?_) | (with_reducible refine below_via (by with_reducible assumption) ?_ ?_) | (first | (with_reducible assumption) | omega | (simp only [World.size_alloc, World.size_setCell, World.size_drew, World.heap_drewN] <;> omega) | (simp <;> omega))))
  go_wp2
  go_ret
  exact ⟨rfl, hB1⟩

set_option maxHeartbeats 1000000 in
theorem nth_of (l k p q : Int) (ma ca : Option Addr) (mc cc n1 n2 : Nat) (w : World) (H : Hid (∀ W, Below w.heap.size w W → Calls Tryd.prog 31 #[ixV l ma n1 mc ca n2 cc, .int .i64 k] W (AnsB W (.tuple #[.int .i64 p, .int .i64 q, .int .i64 0])))) :
    Calls Tryd.prog 13 #[ixV l ma n1 mc ca n2 cc, .int .i64 k, .int .i64 p, .int .i64 q] w (AnsB w (.bool true)) := by
  have g1 : (p == p) = true := by simp
  have g2 : (q == q) = true := by simp
  go_enter Tryd.func13, Tryd.ntmps13
  go_wp2_with fail
  refine (H.out _ ((Below.refl _ _).alloc (Nat.le_refl _) _)).mono ?_
  rintro e w1 ⟨rfl, hb1⟩
  have hz_w1 := hb1.size
  try simp only [World.size_alloc, World.size_setCell] at hz_w1
  have hB1 : Below w.heap.size w w1 := by (repeat (first | (with_reducible exact Below.refl _ _) | (with_reducible assumption) | (with_reducible exact Hid.out (by with_reducible assumption)) | (with_reducible refine Below.alloc ?_ ?_ _) | (with_reducible refine Below.setCell ?_ ?_ _) | (with_reducible refine below_drewN ?_ _) | (with_reducible refine Below.drew ?_) | (with_reducible refine below_via (by with_reducible assumption) ?_ ?_) | (first | (with_reducible assumption) | omega | (simp only [World.size_alloc, World.size_setCell, World.size_drew, World.heap_drewN] <;> omega) | (simp <;> omega))))
  go_wp2
  go_ret
  exact ⟨rfl, hB1⟩

theorem ch_hom : (homT 3 (bldM chC) (bldC chC) 13 = (0, 0, 6) ∧ homT 3 (bldM chC) (bldC chC) 6 = (2, 2, 0) ∧ homT 3 (bldM chC) (bldC chC) 5 = (0, 0, 0)) ∧ ahT 3 (bldM chC) (bldC chC) 3 = (3, 0) ∧ nthT 3 (bldM chC) (bldC chC) 3 = (3, 0, 0) := by rw [chC_eq]; decide +kernel

set_option maxRecDepth 100000 in
set_option maxHeartbeats 1000000 in
theorem down_alive_in (bm bc : List Int) (w : World)
    (CH : Hid (∀ W, Calls Tryd.prog 10 #[] W (FreshIx W 3 bm bc)))
    (H13 : Hid (∀ xa xb xc xd W, IsRow .i64 W xa bm → IsRow .i64 W xb bc → Calls Tryd.prog 8 #[ixV 3 xa bm.length xc xb bc.length xd, .int .i64 13] W (AnsB W (.tuple #[.int .i64 0, .int .i64 0, .int .i64 6]))))
    (A3 : Hid (∀ xa xb xc xd W, IsRow .i64 W xa bm → IsRow .i64 W xb bc → Calls Tryd.prog 11 #[ixV 3 xa bm.length xc xb bc.length xd, .int .i64 3] W (AnsB W (.tuple #[.int .i64 3, .int .i64 0]))))
    (B6 : Hid (∀ xa xb xc xd W, IsRow .i64 W xa bm → IsRow .i64 W xb bc → Calls Tryd.prog 12 #[ixV 3 xa bm.length xc xb bc.length xd, .int .i64 6, .int .i64 2, .int .i64 2] W (AnsB W (.bool true))))
    (B5 : Hid (∀ xa xb xc xd W, IsRow .i64 W xa bm → IsRow .i64 W xb bc → Calls Tryd.prog 12 #[ixV 3 xa bm.length xc xb bc.length xd, .int .i64 5, .int .i64 0, .int .i64 0] W (AnsB W (.bool true))))
    (N3 : Hid (∀ xa xb xc xd W, IsRow .i64 W xa bm → IsRow .i64 W xb bc → Calls Tryd.prog 13 #[ixV 3 xa bm.length xc xb bc.length xd, .int .i64 3, .int .i64 3, .int .i64 0] W (AnsB W (.bool true)))) :
    Calls Tryd.prog 4 #[] w (AnsB w (.bool true)) := by
  unfold FreshIx at CH
  go_enter Tryd.func4, Tryd.ntmps4
  go_wp2_with fail
  refine (CH.out _).mono ?_
  rintro e w1 ⟨v, u, rfl, o1, o2, hb1⟩
  have hz_w1 := hb1.size
  try simp only [World.size_alloc, World.size_setCell] at hz_w1
  obtain ⟨a1, c1, rfl, i1, -, -, -, -⟩ := row_of_owns o1
  obtain ⟨d1, e1, rfl, i2, -, -, -, -⟩ := row_of_owns o2
  clear o1 o2
  have h1 : Below w.heap.size w w1 := hb1
  have s1 := h1.size
  clear hb1
  go_wp2_with fail
  refine (H13.out _ _ _ _ _ i1 i2).mono ?_
  rintro e w2 ⟨rfl, hb2⟩
  have hz_w2 := hb2.size
  try simp only [World.size_alloc, World.size_setCell] at hz_w2
  clear i1 i2
  have h2 : Below w.heap.size w w2 := below_via hb2 h1 (by first | omega | (simp; omega))
  have s2 := h2.size
  clear hb2
  go_wp2_with fail
  refine (CH.out _).mono ?_
  rintro e w3 ⟨v, u, rfl, o1, o2, hb3⟩
  have hz_w3 := hb3.size
  try simp only [World.size_alloc, World.size_setCell] at hz_w3
  obtain ⟨a3, c3, rfl, i1, -, -, -, -⟩ := row_of_owns o1
  obtain ⟨d3, e3, rfl, i2, -, -, -, -⟩ := row_of_owns o2
  clear o1 o2
  have h3 : Below w.heap.size w w3 := below_via hb3 h2 (by first | omega | (simp; omega))
  have s3 := h3.size
  clear hb3
  go_wp2_with fail
  refine (A3.out _ _ _ _ _ i1 i2).mono ?_
  rintro e w4 ⟨rfl, hb4⟩
  have hz_w4 := hb4.size
  try simp only [World.size_alloc, World.size_setCell] at hz_w4
  clear i1 i2
  have h4 : Below w.heap.size w w4 := below_via hb4 h3 (by first | omega | (simp; omega))
  have s4 := h4.size
  clear hb4
  go_wp2_with fail
  refine (CH.out _).mono ?_
  rintro e w5 ⟨v, u, rfl, o1, o2, hb5⟩
  have hz_w5 := hb5.size
  try simp only [World.size_alloc, World.size_setCell] at hz_w5
  obtain ⟨a5, c5, rfl, i1, -, -, -, -⟩ := row_of_owns o1
  obtain ⟨d5, e5, rfl, i2, -, -, -, -⟩ := row_of_owns o2
  clear o1 o2
  have h5 : Below w.heap.size w w5 := below_via hb5 h4 (by first | omega | (simp; omega))
  have s5 := h5.size
  clear hb5
  go_wp2_with fail
  refine (B6.out _ _ _ _ _ i1 i2).mono ?_
  rintro e w6 ⟨rfl, hb6⟩
  have hz_w6 := hb6.size
  try simp only [World.size_alloc, World.size_setCell] at hz_w6
  clear i1 i2
  have h6 : Below w.heap.size w w6 := below_via hb6 h5 (by first | omega | (simp; omega))
  have s6 := h6.size
  clear hb6
  go_wp2_with fail
  refine (CH.out _).mono ?_
  rintro e w7 ⟨v, u, rfl, o1, o2, hb7⟩
  have hz_w7 := hb7.size
  try simp only [World.size_alloc, World.size_setCell] at hz_w7
  obtain ⟨a7, c7, rfl, i1, -, -, -, -⟩ := row_of_owns o1
  obtain ⟨d7, e7, rfl, i2, -, -, -, -⟩ := row_of_owns o2
  clear o1 o2
  have h7 : Below w.heap.size w w7 := below_via hb7 h6 (by first | omega | (simp; omega))
  have s7 := h7.size
  clear hb7
  go_wp2_with fail
  refine (B5.out _ _ _ _ _ i1 i2).mono ?_
  rintro e w8 ⟨rfl, hb8⟩
  have hz_w8 := hb8.size
  try simp only [World.size_alloc, World.size_setCell] at hz_w8
  clear i1 i2
  have h8 : Below w.heap.size w w8 := below_via hb8 h7 (by first | omega | (simp; omega))
  have s8 := h8.size
  clear hb8
  go_wp2_with fail
  refine (CH.out _).mono ?_
  rintro e w9 ⟨v, u, rfl, o1, o2, hb9⟩
  have hz_w9 := hb9.size
  try simp only [World.size_alloc, World.size_setCell] at hz_w9
  obtain ⟨a9, c9, rfl, i1, -, -, -, -⟩ := row_of_owns o1
  obtain ⟨d9, e9, rfl, i2, -, -, -, -⟩ := row_of_owns o2
  clear o1 o2
  have h9 : Below w.heap.size w w9 := below_via hb9 h8 (by first | omega | (simp; omega))
  have s9 := h9.size
  clear hb9
  go_wp2_with fail
  refine (N3.out _ _ _ _ _ i1 i2).mono ?_
  rintro e w10 ⟨rfl, hb10⟩
  have hz_w10 := hb10.size
  try simp only [World.size_alloc, World.size_setCell] at hz_w10
  clear i1 i2
  have h10 : Below w.heap.size w w10 := below_via hb10 h9 (by first | omega | (simp; omega))
  have s10 := h10.size
  clear hb10
  go_wp2
  go_ret
  exact ⟨rfl, h10⟩
/-- the chapter's index, asked -/
theorem home_ch (k p q e : Int) (h : homT 3 (bldM chC) (bldC chC) k = (p, q, e)) (xa xb : Option Addr) (xc xd : Nat) (W : World) (h1 : IsRow .i64 W xa (bldM chC)) (h2 : IsRow .i64 W xb (bldC chC)) : Calls Tryd.prog 8 #[ixV 3 xa (bldM chC).length xc xb (bldC chC).length xd, .int .i64 k] W (AnsB W (.tuple #[.int .i64 p, .int .i64 q, .int .i64 e])) := by
  have := Home_ix 3 k xa xb xc xd _ _ W h1 h2
  rw [h] at this
  exact this
theorem nth_ch (k p q e : Int) (k1 : -9223372036854775808 ≤ k) (k2 : k ≤ 9223372036854775807) (h : nthT 3 (bldM chC) (bldC chC) k = (p, q, e)) (xa xb : Option Addr) (xc xd : Nat) (W : World) (h1 : IsRow .i64 W xa (bldM chC)) (h2 : IsRow .i64 W xb (bldC chC)) : Calls Tryd.prog 31 #[ixV 3 xa (bldM chC).length xc xb (bldC chC).length xd, .int .i64 k] W (AnsB W (.tuple #[.int .i64 p, .int .i64 q, .int .i64 e])) := by
  have := Nth_ix 3 k k1 k2 xa xb xc xd _ _ W h1 h2
  rw [h] at this
  exact this
theorem ahead_ch (k p e : Int) (h : ahT 3 (bldM chC) (bldC chC) k = (p, e)) (xa xb : Option Addr) (xc xd : Nat) (W : World) (h1 : IsRow .i64 W xa (bldM chC)) (h2 : IsRow .i64 W xb (bldC chC)) : Calls Tryd.prog 11 #[ixV 3 xa (bldM chC).length xc xb (bldC chC).length xd, .int .i64 k] W (AnsB W (.tuple #[.int .i64 p, .int .i64 e])) := by
  have := Ahead_ix 3 k xa xb xc xd _ _ W h1 h2
  rw [h] at this
  exact this
theorem home_is (k p q : Int) (h : homT 3 (bldM chC) (bldC chC) k = (p, q, 0)) (xa xb : Option Addr) (xc xd : Nat) (W : World) (h1 : IsRow .i64 W xa (bldM chC)) (h2 : IsRow .i64 W xb (bldC chC)) : Calls Tryd.prog 12 #[ixV 3 xa (bldM chC).length xc xb (bldC chC).length xd, .int .i64 k, .int .i64 p, .int .i64 q] W (AnsB W (.bool true)) :=
  home_of 3 k p q xa xb xc xd _ _ W (Lib.hid fun W' hb => home_ch k p q 0 h xa xb xc xd W' (h1.below hb) (h2.below hb))
theorem nth_is (k p q : Int) (k1 : -9223372036854775808 ≤ k) (k2 : k ≤ 9223372036854775807) (h : nthT 3 (bldM chC) (bldC chC) k = (p, q, 0)) (xa xb : Option Addr) (xc xd : Nat) (W : World) (h1 : IsRow .i64 W xa (bldM chC)) (h2 : IsRow .i64 W xb (bldC chC)) : Calls Tryd.prog 13 #[ixV 3 xa (bldM chC).length xc xb (bldC chC).length xd, .int .i64 k, .int .i64 p, .int .i64 q] W (AnsB W (.bool true)) :=
  nth_of 3 k p q xa xb xc xd _ _ W (Lib.hid fun W' hb => nth_ch k p q 0 k1 k2 h xa xb xc xd W' (h1.below hb) (h2.below hb))
theorem down_alive (w : World) : Calls Tryd.prog 4 #[] w (AnsB w (.bool true)) :=
  down_alive_in _ _ w (Lib.hid chapter_ok) (Lib.hid (home_ch 13 0 0 6 ch_hom.1.1)) (Lib.hid (ahead_ch 3 3 0 ch_hom.2.1)) (Lib.hid (home_is 6 2 2 ch_hom.1.2.1)) (Lib.hid (home_is 5 0 0 ch_hom.1.2.2)) (Lib.hid (nth_is 3 3 0 (by decide) (by decide) ch_hom.2.2))
end
end Go.Proofs.YtfmoghjddfjfmaaDoor
