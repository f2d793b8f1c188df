/- The walk of index.At. -/
import Derived.Test.YtelckhfmchnpnaaIdxCheck
namespace Go.Proofs.Ytelckhfmchnpnaa
open Go.RowKit
set_option linter.unusedVariables false
set_option linter.unusedSimpArgs false

theorem Check_ix (l : Int) (ma ca : Option Addr) (mc cc : Nat) (ms cs : List Int) (w : World) (hm : IsRow .i64 w ma ms) (hc : IsRow .i64 w ca cs) :
    Calls Try.prog 14 #[ixV l ma ms.length mc ca cs.length cc] w (Ans w (.int .i64 (ixE l ms cs))) := by
  by_cases h : ixFit l ms cs
  · have e : ixE l ms cs = if allFrom (ndB l.toNat ms cs) 1 (2 ^ l.toNat - 1) = true then 0 else 8 := by
      unfold ixE ixMay
      rw [decide_eq_true h, Bool.true_and]
    obtain ⟨h1, h2, h3, h4⟩ := h
    rw [e, h3, h4]
    have hp := Nat.two_pow_pos l.toNat
    exact Check_fit l.toNat (2 ^ l.toNat - 1) l (by omega) (by omega) (by omega) (by omega) ma ca mc cc ms cs h3 h4 w hm hc
  · have e : ixE l ms cs = 8 := by
      unfold ixE ixMay
      rw [decide_eq_false h, Bool.false_and]
      rfl
    rw [e]
    exact Check_bad l ma ca mc cc ms cs h w
theorem ixMay_fit {l : Int} {ms cs : List Int} (h : ixMay l ms cs = true) : ixFit l ms cs := by
  unfold ixMay at h
  rw [Bool.and_eq_true, decide_eq_true_eq] at h
  exact h.1

set_option maxHeartbeats 1000000 in
theorem At_ix (l n : Int) (ma ca : Option Addr) (mc cc : Nat) (ms cs : List Int) (w : World) (hm : IsRow .i64 w ma ms) (hc : IsRow .i64 w ca cs) :
    Calls Try.prog 12 #[ixV l ma ms.length mc ca cs.length cc, .int .i64 n] w (Ans w (.tuple #[.int .i64 (atM l ms cs n), .int .i64 (atC l ms cs n), .int .i64 (atE l ms cs n)])) := by
  have CK := Lib.hid (fun (W : World) (hb : Below w.heap.size w W) => Check_ix l ma ca mc cc ms cs W (hm.below hb) (hc.below hb))
  by_cases hmay : ixMay l ms cs = true
  · have e0 : ixE l ms cs = 0 := if_pos hmay
    have hf := ixMay_fit hmay
    obtain ⟨h1, h2, h3, h4⟩ := hf
    have hpos := Nat.two_pow_pos l.toNat
    obtain ⟨N, hN⟩ : ∃ N, 2 ^ l.toNat - 1 = N := ⟨_, rfl⟩
    have hN1 : N + 1 = 2 ^ l.toNat := by omega
    rw [hN] at h3 h4
    have hb : N + 1 ≤ 16384 := by rw [hN1]; exact Nat.pow_le_pow_right (by omega) (by omega : l.toNat ≤ 14)
    have hI : (2 : Int) ^ l.toNat = (N : Int) + 1 := by
      have : (2 : Int) ^ l.toNat = ((2 ^ l.toNat : Nat) : Int) := by push_cast; rfl
      rw [this]; omega
    have RD := Lib.hid (fun (W : World) (hb : Below w.heap.size w W) => read_ok l.toNat N l (by omega) (by omega) (by omega) hN1 ma ca mc cc ms cs h3 h4 W (hm.below hb) (hc.below hb))
    rw [h3, h4, e0] at CK
    rw [h3, h4]
    by_cases hn : 1 ≤ n ∧ n < (N : Int) + 1
    · have e1 : atE l ms cs n = 0 := by unfold atE; rw [if_pos hmay, if_pos (by rw [hI]; exact hn)]
      have e2 : atM l ms cs n = tlF l.toNat ms n.toNat := if_pos e1
      have e3 : atC l ms cs n = tlF l.toNat cs n.toNat := if_pos e1
      rw [e1, e2, e3]
      obtain ⟨j, rfl⟩ : ∃ j : Nat, n = j := ⟨n.toNat, by omega⟩
      have hj1 : 1 ≤ j := by omega
      have hj2 : j < N + 1 := by omega
      rw [Int.toNat_natCast]
      clear e1 e2 e3 hn hI e0 hm hc hmay h1 h2 h3 h4 hN hN1 hpos
      go_enter Try.func12, Try.ntmps12
      go_wp2_with fail
      refine (CK.out _ (by (repeat (first | (with_reducible exact Below.refl _ _) | (with_reducible assumption) | (with_reducible exact Hid.out (by with_reducible assumption)) | (with_reducible refine Below.alloc ?_ ?_ _) | (with_reducible refine Below.setCell ?_ ?_ _) | (with_reducible refine below_drewN ?_ _) | (with_reducible refine Below.drew ?_) | (with_reducible refine below_via (by with_reducible assumption) ?_ ?_) | (first | (with_reducible assumption) | omega | (simp only [World.size_alloc, World.size_setCell, World.size_drew, World.heap_drewN] <;> omega) | (simp <;> omega)))))).mono ?_
      rintro e w1 ⟨rfl, hb1⟩
      have hz1 := hb1.size
      simp only [World.size_alloc] at hz1
      have c0 : w1.cell? ⟨w.heap.size, 0, none⟩ = some (.int .i64 l) := (hb1.cell (p := ⟨w.heap.size, 0, none⟩) (by simp)).trans (by ((try simp (disch := first | omega | (simp only [World.size_alloc] <;> omega) | fail) only [World.cell?_alloc_past, World.cell?_alloc_at, World.frozen?_alloc_past, World.frozen?_alloc_at]) <;> rfl))
      have c1 : w1.cell? ⟨w.heap.size, 1, none⟩ = some (.slice ma N mc) := (hb1.cell (p := ⟨w.heap.size, 1, none⟩) (by simp)).trans (by ((try simp (disch := first | omega | (simp only [World.size_alloc] <;> omega) | fail) only [World.cell?_alloc_past, World.cell?_alloc_at, World.frozen?_alloc_past, World.frozen?_alloc_at]) <;> rfl))
      have c2 : w1.cell? ⟨w.heap.size, 2, none⟩ = some (.slice ca N cc) := (hb1.cell (p := ⟨w.heap.size, 2, none⟩) (by simp)).trans (by ((try simp (disch := first | omega | (simp only [World.size_alloc] <;> omega) | fail) only [World.cell?_alloc_past, World.cell?_alloc_at, World.frozen?_alloc_past, World.frozen?_alloc_at]) <;> rfl))
      have hB1 : Below w.heap.size w w1 := by (repeat (first | (with_reducible exact Below.refl _ _) | (with_reducible assumption) | (with_reducible exact Hid.out (by with_reducible assumption)) | (with_reducible refine Below.alloc ?_ ?_ _) | (with_reducible refine Below.setCell ?_ ?_ _) | (with_reducible refine below_drewN ?_ _) | (with_reducible refine Below.drew ?_) | (with_reducible refine below_via (by with_reducible assumption) ?_ ?_) | (first | (with_reducible assumption) | omega | (simp only [World.size_alloc, World.size_setCell, World.size_drew, World.heap_drewN] <;> omega) | (simp <;> omega))))
      go_wp2_with fail
      refine (RD.out _ hB1).mono ?_
      rintro e w2 ⟨g, rfl, ho, hb2⟩
      obtain ⟨d0, d1⟩ := nd_cells ho hj2
      have hB2 : Below w.heap.size w w2 := below_via hb2 hB1 (by omega)
      clear ho hb2
      go_wp2
      go_quiet (fail)
      go_wp2
      go_ret3
      exact ⟨rfl, by (repeat (first | (with_reducible exact Below.refl _ _) | (with_reducible assumption) | (with_reducible exact Hid.out (by with_reducible assumption)) | (with_reducible refine Below.alloc ?_ ?_ _) | (with_reducible refine Below.setCell ?_ ?_ _) | (with_reducible refine below_drewN ?_ _) | (with_reducible refine Below.drew ?_) | (with_reducible refine below_via (by with_reducible assumption) ?_ ?_) | (first | (with_reducible assumption) | omega | (simp only [World.size_alloc, World.size_setCell, World.size_drew, World.heap_drewN] <;> omega) | (simp <;> omega))))⟩
    · have e1 : atE l ms cs n = 2 := by unfold atE; rw [if_pos hmay, if_neg (by rw [hI]; exact hn)]
      have e2 : atM l ms cs n = 0 := by unfold atM; rw [e1]; rfl
      have e3 : atC l ms cs n = 0 := by unfold atC; rw [e1]; rfl
      rw [e1, e2, e3]
      have hs : n < 1 ∨ (1 ≤ n ∧ (N : Int) + 1 ≤ n) := by omega
      clear e1 e2 e3 hn hI e0 hm hc hmay h1 h2 h3 h4 hN hN1 hpos
      rcases hs with hs | ⟨hs, hs2⟩
      · go_enter Try.func12, Try.ntmps12
        go_wp2_with fail
        refine (CK.out _ (by (repeat (first | (with_reducible exact Below.refl _ _) | (with_reducible assumption) | (with_reducible exact Hid.out (by with_reducible assumption)) | (with_reducible refine Below.alloc ?_ ?_ _) | (with_reducible refine Below.setCell ?_ ?_ _) | (with_reducible refine below_drewN ?_ _) | (with_reducible refine Below.drew ?_) | (with_reducible refine below_via (by with_reducible assumption) ?_ ?_) | (first | (with_reducible assumption) | omega | (simp only [World.size_alloc, World.size_setCell, World.size_drew, World.heap_drewN] <;> omega) | (simp <;> omega)))))).mono ?_
        rintro e w1 ⟨rfl, hb1⟩
        have hz1 := hb1.size
        simp only [World.size_alloc] at hz1
        have c0 : w1.cell? ⟨w.heap.size, 0, none⟩ = some (.int .i64 l) := (hb1.cell (p := ⟨w.heap.size, 0, none⟩) (by simp)).trans (by ((try simp (disch := first | omega | (simp only [World.size_alloc] <;> omega) | fail) only [World.cell?_alloc_past, World.cell?_alloc_at, World.frozen?_alloc_past, World.frozen?_alloc_at]) <;> rfl))
        have c1 : w1.cell? ⟨w.heap.size, 1, none⟩ = some (.slice ma N mc) := (hb1.cell (p := ⟨w.heap.size, 1, none⟩) (by simp)).trans (by ((try simp (disch := first | omega | (simp only [World.size_alloc] <;> omega) | fail) only [World.cell?_alloc_past, World.cell?_alloc_at, World.frozen?_alloc_past, World.frozen?_alloc_at]) <;> rfl))
        have c2 : w1.cell? ⟨w.heap.size, 2, none⟩ = some (.slice ca N cc) := (hb1.cell (p := ⟨w.heap.size, 2, none⟩) (by simp)).trans (by ((try simp (disch := first | omega | (simp only [World.size_alloc] <;> omega) | fail) only [World.cell?_alloc_past, World.cell?_alloc_at, World.frozen?_alloc_past, World.frozen?_alloc_at]) <;> rfl))
        have hB1 : Below w.heap.size w w1 := by (repeat (first | (with_reducible exact Below.refl _ _) | (with_reducible assumption) | (with_reducible exact Hid.out (by with_reducible assumption)) | (with_reducible refine Below.alloc ?_ ?_ _) | (with_reducible refine Below.setCell ?_ ?_ _) | (with_reducible refine below_drewN ?_ _) | (with_reducible refine Below.drew ?_) | (with_reducible refine below_via (by with_reducible assumption) ?_ ?_) | (first | (with_reducible assumption) | omega | (simp only [World.size_alloc, World.size_setCell, World.size_drew, World.heap_drewN] <;> omega) | (simp <;> omega))))
        go_wp2_with fail
        refine (RD.out _ hB1).mono ?_
        rintro e w2 ⟨g, rfl, ho, hb2⟩
        have hB2 : Below w.heap.size w w2 := below_via hb2 hB1 (by omega)
        clear ho hb2
        go_wp2
        go_ret3
        exact ⟨rfl, by (repeat (first | (with_reducible exact Below.refl _ _) | (with_reducible assumption) | (with_reducible exact Hid.out (by with_reducible assumption)) | (with_reducible refine Below.alloc ?_ ?_ _) | (with_reducible refine Below.setCell ?_ ?_ _) | (with_reducible refine below_drewN ?_ _) | (with_reducible refine Below.drew ?_) | (with_reducible refine below_via (by with_reducible assumption) ?_ ?_) | (first | (with_reducible assumption) | omega | (simp only [World.size_alloc, World.size_setCell, World.size_drew, World.heap_drewN] <;> omega) | (simp <;> omega))))⟩
      · go_enter Try.func12, Try.ntmps12
        go_wp2_with fail
        refine (CK.out _ (by (repeat (first | (with_reducible exact Below.refl _ _) | (with_reducible assumption) | (with_reducible exact Hid.out (by with_reducible assumption)) | (with_reducible refine Below.alloc ?_ ?_ _) | (with_reducible refine Below.setCell ?_ ?_ _) | (with_reducible refine below_drewN ?_ _) | (with_reducible refine Below.drew ?_) | (with_reducible refine below_via (by with_reducible assumption) ?_ ?_) | (first | (with_reducible assumption) | omega | (simp only [World.size_alloc, World.size_setCell, World.size_drew, World.heap_drewN] <;> omega) | (simp <;> omega)))))).mono ?_
        rintro e w1 ⟨rfl, hb1⟩
        have hz1 := hb1.size
        simp only [World.size_alloc] at hz1
        have c0 : w1.cell? ⟨w.heap.size, 0, none⟩ = some (.int .i64 l) := (hb1.cell (p := ⟨w.heap.size, 0, none⟩) (by simp)).trans (by ((try simp (disch := first | omega | (simp only [World.size_alloc] <;> omega) | fail) only [World.cell?_alloc_past, World.cell?_alloc_at, World.frozen?_alloc_past, World.frozen?_alloc_at]) <;> rfl))
        have c1 : w1.cell? ⟨w.heap.size, 1, none⟩ = some (.slice ma N mc) := (hb1.cell (p := ⟨w.heap.size, 1, none⟩) (by simp)).trans (by ((try simp (disch := first | omega | (simp only [World.size_alloc] <;> omega) | fail) only [World.cell?_alloc_past, World.cell?_alloc_at, World.frozen?_alloc_past, World.frozen?_alloc_at]) <;> rfl))
        have c2 : w1.cell? ⟨w.heap.size, 2, none⟩ = some (.slice ca N cc) := (hb1.cell (p := ⟨w.heap.size, 2, none⟩) (by simp)).trans (by ((try simp (disch := first | omega | (simp only [World.size_alloc] <;> omega) | fail) only [World.cell?_alloc_past, World.cell?_alloc_at, World.frozen?_alloc_past, World.frozen?_alloc_at]) <;> rfl))
        have hB1 : Below w.heap.size w w1 := by (repeat (first | (with_reducible exact Below.refl _ _) | (with_reducible assumption) | (with_reducible exact Hid.out (by with_reducible assumption)) | (with_reducible refine Below.alloc ?_ ?_ _) | (with_reducible refine Below.setCell ?_ ?_ _) | (with_reducible refine below_drewN ?_ _) | (with_reducible refine Below.drew ?_) | (with_reducible refine below_via (by with_reducible assumption) ?_ ?_) | (first | (with_reducible assumption) | omega | (simp only [World.size_alloc, World.size_setCell, World.size_drew, World.heap_drewN] <;> omega) | (simp <;> omega))))
        go_wp2_with fail
        refine (RD.out _ hB1).mono ?_
        rintro e w2 ⟨g, rfl, ho, hb2⟩
        have hB2 : Below w.heap.size w w2 := below_via hb2 hB1 (by omega)
        clear ho hb2
        go_wp2
        go_ret3
        exact ⟨rfl, by (repeat (first | (with_reducible exact Below.refl _ _) | (with_reducible assumption) | (with_reducible exact Hid.out (by with_reducible assumption)) | (with_reducible refine Below.alloc ?_ ?_ _) | (with_reducible refine Below.setCell ?_ ?_ _) | (with_reducible refine below_drewN ?_ _) | (with_reducible refine Below.drew ?_) | (with_reducible refine below_via (by with_reducible assumption) ?_ ?_) | (first | (with_reducible assumption) | omega | (simp only [World.size_alloc, World.size_setCell, World.size_drew, World.heap_drewN] <;> omega) | (simp <;> omega))))⟩
  · have e0 : ixE l ms cs = 8 := if_neg hmay
    have e1 : atE l ms cs n = 8 := if_neg hmay
    have e2 : atM l ms cs n = 0 := by unfold atM; rw [e1]; rfl
    have e3 : atC l ms cs n = 0 := by unfold atC; rw [e1]; rfl
    rw [e0] at CK
    rw [e1, e2, e3]
    clear e0 e1 e2 e3 hmay hm hc
    go_enter Try.func12, Try.ntmps12
    go_wp2_with fail
    refine (CK.out _ (by (repeat (first | (with_reducible exact Below.refl _ _) | (with_reducible assumption) | (with_reducible exact Hid.out (by with_reducible assumption)) | (with_reducible refine Below.alloc ?_ ?_ _) | (with_reducible refine Below.setCell ?_ ?_ _) | (with_reducible refine below_drewN ?_ _) | (with_reducible refine Below.drew ?_) | (with_reducible refine below_via (by with_reducible assumption) ?_ ?_) | (first | (with_reducible assumption) | omega | (simp only [World.size_alloc, World.size_setCell, World.size_drew, World.heap_drewN] <;> omega) | (simp <;> omega)))))).mono ?_
    rintro e w1 ⟨rfl, hb1⟩
    go_wp2
    go_ret3
    exact ⟨rfl, by (repeat (first | (with_reducible exact Below.refl _ _) | (with_reducible assumption) | (with_reducible exact Hid.out (by with_reducible assumption)) | (with_reducible refine Below.alloc ?_ ?_ _) | (with_reducible refine Below.setCell ?_ ?_ _) | (with_reducible refine below_drewN ?_ _) | (with_reducible refine Below.drew ?_) | (with_reducible refine below_via (by with_reducible assumption) ?_ ?_) | (first | (with_reducible assumption) | omega | (simp only [World.size_alloc, World.size_setCell, World.size_drew, World.heap_drewN] <;> omega) | (simp <;> omega))))⟩
end Go.Proofs.Ytelckhfmchnpnaa
