/- The walk of index.read. -/
import Derived.Test.YtelckhfmchnpnaaIdxNodes
namespace Go.Proofs.Ytelckhfmchnpnaa
open Go.RowKit
set_option linter.unusedVariables false
set_option linter.unusedSimpArgs false

set_option maxRecDepth 100000 in
set_option maxHeartbeats 2000000 in
theorem read_ok (L N : Nat) (l : Int) (hl : l = L) (h1 : 1 ≤ L) (h2 : L ≤ 14) (hN : N + 1 = 2 ^ L) (ma ca : Option Addr) (mc cc : Nat) (ms cs : List Int) (hlm : ms.length = N) (hlc : cs.length = N) (w : World)
    (hm : IsRow .i64 w ma ms) (hc : IsRow .i64 w ca cs) :
    Calls Try.prog 36 #[ixV l ma N mc ca N cc] w fun e w' => ∃ g, e = .returned (.tuple #[.slice (some ⟨g, 0, none⟩) (N + 1) (N + 1), .bool true]) ∧
      w'.ownsRow (w.heap.size + 1) 77 3 (.slice (some ⟨g, 0, none⟩) (N + 1) (N + 1)) (N + 1) (ndRow (tlF L ms) (tlF L cs) (pcF L) (N + 1)) ∧ Below w.heap.size w w' := by
  have hp : 2 ^ L ≤ 16384 := Nat.pow_le_pow_right (by omega) h2
  have hMb : N + 1 ≤ 16384 := by omega
  have hN1 : 0 < N := by have : 2 ^ 1 ≤ 2 ^ L := Nat.pow_le_pow_right (by omega) h1; omega
  have hS := Size_ok l (by omega) (by omega)
  have e1 : (2 : Int) ^ l.toNat - 1 = (N : Int) := by
    have : (2 : Int) ^ l.toNat = ((2 ^ L : Nat) : Int) := by rw [show l.toNat = L by omega]; push_cast; rfl
    rw [this]; omega
  rw [e1] at hS
  have HS := Lib.hid hS
  have hNd := nodes_ok L l hl h1 h2
  rw [← hN] at hNd
  have HN := Lib.hid hNd
  have hpc : ∀ n, 0 ≤ pcF L n ∧ pcF L n < N := fun n => by have := pcF_bd h1 n; omega
  have HP := Lib.hid hpc
  have HM := Lib.hid hm
  have HC := Lib.hid hc
  have HLM := Lib.hid hlm
  have HLC := Lib.hid hlc
  clear hS e1 hNd hN hp hpc h1 h2 hl hm hc hlm hlc
  go_enter Try.func36, Try.ntmps36
  go_wp2_with (first
    | (go_at_call 28; refine (HS.out _).mono ?_; rintro e w' ⟨rfl, rfl⟩)
    | (go_at_call 47; refine (HN.out _).mono ?_; rintro e w1 ⟨g, rfl, ho, hb⟩
       have hg := (ho.lt g rfl)
       simp only [World.size_alloc] at hg hb ho
       have hz1 : w.heap.size + 1 ≤ w1.heap.size := by have := hb.size; simp at this; omega
       have c0 : w1.cell? ⟨w.heap.size, 0, none⟩ = some (.int .i64 l) := (hb.cell (p := ⟨w.heap.size, 0, none⟩) (by simp)).trans (by ((try simp (disch := first | omega | (simp only [World.size_alloc] <;> omega) | fail) only [World.cell?_alloc_past, World.cell?_alloc_at, World.frozen?_alloc_past, World.frozen?_alloc_at]) <;> rfl))
       have c1 : w1.cell? ⟨w.heap.size, 1, none⟩ = some (.slice ma N mc) := (hb.cell (p := ⟨w.heap.size, 1, none⟩) (by simp)).trans (by ((try simp (disch := first | omega | (simp only [World.size_alloc] <;> omega) | fail) only [World.cell?_alloc_past, World.cell?_alloc_at, World.frozen?_alloc_past, World.frozen?_alloc_at]) <;> rfl))
       have c2 : w1.cell? ⟨w.heap.size, 2, none⟩ = some (.slice ca N cc) := (hb.cell (p := ⟨w.heap.size, 2, none⟩) (by simp)).trans (by ((try simp (disch := first | omega | (simp only [World.size_alloc] <;> omega) | fail) only [World.cell?_alloc_past, World.cell?_alloc_at, World.frozen?_alloc_past, World.frozen?_alloc_at]) <;> rfl))
       have HO := Lib.hid ho
       have HB := Lib.hid (below_via hb ((Below.refl _ w).alloc (Nat.le_refl _) _) (by omega))
       clear ho hb))
  go_loopg [37] N (fun gk i wr => ∃ k : Nat, k + gk = N ∧ i = .int .i64 k ∧ wr.cell? ⟨w.heap.size, 1, none⟩ = some (.slice ma N mc) ∧ wr.cell? ⟨w.heap.size, 2, none⟩ = some (.slice ca N cc) ∧
      Hid (wr.ownsRow (w.heap.size + 1) 77 3 (.slice (some ⟨g, 0, none⟩) (N + 1) (N + 1)) (N + 1) (ndRow (upTo (tlF L ms) k) (upTo (tlF L cs) k) (pcF L) (N + 1))) ∧ Hid (Below w.heap.size w wr))
  case atStart =>
    refine ⟨0, by omega, rfl, c1, c2, Lib.hid ?_, HB⟩
    rw [upTo_zero (tlF_zero L ms), upTo_zero (tlF_zero L cs)]
    exact HO.out
  case round =>
    obtain ⟨k, hk, rfl, c1, c2, HO, HB⟩ := hrel
    by_cases hlt : k < N
    · have hpk := HP.out (k + 1)
      obtain ⟨p, hpp⟩ : ∃ p : Nat, pcF L (k + 1) = p := ⟨(pcF L (k + 1)).toNat, by omega⟩
      have hpN : p < N := by omega
      have hlen : (flat3 (upTo (tlF L ms) k) (upTo (tlF L cs) k) (pcF L) (N + 1)).length = (N + 1) * 3 := flat3_length
      obtain ⟨d0, d1⟩ := own_cell HO.out (j := (k + 1) * 3 + 2) (by omega)
      rw [flat3_2 (by omega), hpp] at d0
      obtain ⟨d2, d3⟩ := own_cell HO.out (j := (k + 1) * 3) (by omega)
      obtain ⟨d4, d5⟩ := own_cell HO.out (j := (k + 1) * 3 + 1) (by omega)
      generalize (flat3 (upTo (tlF L ms) k) (upTo (tlF L cs) k) (pcF L) (N + 1)).getD ((k + 1) * 3) 0 = y0 at d2
      generalize (flat3 (upTo (tlF L ms) k) (upTo (tlF L cs) k) (pcF L) (N + 1)).getD ((k + 1) * 3 + 1) 0 = y1 at d4
      obtain ⟨b1, o1, x1, rfl, hx1, hc1, -⟩ := (HM.out.below HB.out).get (i := p) (by rw [HLM.out]; exact hpN)
      obtain ⟨b2, o2, x2, rfl, hx2, hc2, -⟩ := (HC.out.below HB.out).get (i := p) (by rw [HLC.out]; exact hpN)
      have hwr : IntKind.i64.wrap ((k : Int) + 1) = (k : Int) + 1 := IntWalk.i64_in _ (by omega)
      have h5 : ((k : Int) + 1).toNat = k + 1 := by omega
      have HPP := Lib.hid hpp
      have HK := Lib.hid hk
      clear hpp hlen hpk c0
      go_wp2
      go_still_tail 14, (by kernel_rfl)
      go_wp2
      go_roundg (gk - 1)
      case measure => have := HK.out; omega
      case rel =>
        have hgw : w.heap.size ≠ g := by omega
        refine ⟨k + 1, by have := HK.out; omega, by go_num, by (first | (with_reducible assumption) | ((simp only [World.frozen?_setCell, World.frozen?_drew, World.frozen?_drewN]) <;> (with_reducible assumption)) | ((repeat (first | (with_reducible assumption) | (with_reducible refine World.cell?_setCell_same _ _ _ (by with_reducible assumption)) | (rw [World.cell?_setCell_other _ _ _ _ (by intro e; simp at e; done)]) | (with_reducible refine cell_setCell_block ?_ ?_) | (rw [World.cell?_drew]) | (rw [World.cell?_drewN]) | (dsimp only; omega))); done) | (first | (with_reducible assumption) | ((try simp (disch := first | omega | (simp only [World.size_alloc, World.size_setCell, World.size_drew, World.heap_drewN] <;> omega) | fail) only [World.cell?_alloc_past, World.cell?_alloc_at, World.frozen?_alloc_past, World.frozen?_alloc_at, World.frozen?_setCell, World.cell?_drew, World.frozen?_drew]) <;> first | (with_reducible assumption) | rfl))), by (first | (with_reducible assumption) | ((simp only [World.frozen?_setCell, World.frozen?_drew, World.frozen?_drewN]) <;> (with_reducible assumption)) | ((repeat (first | (with_reducible assumption) | (with_reducible refine World.cell?_setCell_same _ _ _ (by with_reducible assumption)) | (rw [World.cell?_setCell_other _ _ _ _ (by intro e; simp at e; done)]) | (with_reducible refine cell_setCell_block ?_ ?_) | (rw [World.cell?_drew]) | (rw [World.cell?_drewN]) | (dsimp only; omega))); done) | (first | (with_reducible assumption) | ((try simp (disch := first | omega | (simp only [World.size_alloc, World.size_setCell, World.size_drew, World.heap_drewN] <;> omega) | fail) only [World.cell?_alloc_past, World.cell?_alloc_at, World.frozen?_alloc_past, World.frozen?_alloc_at, World.frozen?_setCell, World.cell?_drew, World.frozen?_drew]) <;> first | (with_reducible assumption) | rfl))), Lib.hid ?_, Lib.hid (((HB.out.setCell (by show w.heap.size ≤ g; omega) _).setCell (by show w.heap.size ≤ g; omega) _).drew)⟩
        have q1 : tlF L ms (k + 1) = x1 := by rw [tlF, if_neg (by omega), HPP.out]; exact hx1.out
        have q2 : tlF L cs (k + 1) = x2 := by rw [tlF, if_neg (by omega), HPP.out]; exact hx2.out
        have o1 := own_set HO.out ((k + 1) * 3) x1
        rw [flat3_set0 (by omega), putF_upTo _ _ _ q1.symm] at o1
        have o2 := own_set o1 ((k + 1) * 3 + 1) x2
        rw [flat3_set1 (by omega), putF_upTo _ _ _ q2.symm] at o2
        exact o2
    · have hkN : k = N := by omega
      go_wp2
      go_ret2
      refine ⟨g, rfl, ?_, HB.out⟩
      have := HO.out
      have e : ndRow (upTo (tlF L ms) k) (upTo (tlF L cs) k) (pcF L) (N + 1) = ndRow (tlF L ms) (tlF L cs) (pcF L) (N + 1) := by
        unfold ndRow
        rw [flat3_congr (a' := tlF L ms) (b' := tlF L cs) (c' := pcF L) (fun i hi => by unfold upTo; rw [if_pos (by omega)]) (fun i hi => by unfold upTo; rw [if_pos (by omega)]) (fun _ _ => rfl)]
      rw [← e]
      exact this
set_option maxHeartbeats 1000000 in
theorem read_bad (l : Int) (ma ca : Option Addr) (mc cc : Nat) (ms cs : List Int) (h : ¬ ixFit l ms cs) (w : World) :
    Calls Try.prog 36 #[ixV l ma ms.length mc ca cs.length cc] w (Ans w (.tuple #[.slice none 0 0, .bool false])) := by
  by_cases hl : 1 ≤ l ∧ l ≤ 14
  · obtain ⟨h1, h2⟩ := hl
    obtain ⟨N, hN⟩ : ∃ N : Nat, 2 ^ l.toNat - 1 = N := ⟨_, rfl⟩
    have hpos := Nat.two_pow_pos l.toNat
    have e1 : (2 : Int) ^ l.toNat - 1 = (N : Int) := by
      have : (2 : Int) ^ l.toNat = ((2 ^ l.toNat : Nat) : Int) := by push_cast; rfl
      rw [this]; omega
    have hS := Size_ok l h1 h2
    rw [e1] at hS
    have HS := Lib.hid hS
    have hd : ms.length ≠ N ∨ cs.length ≠ N := by
      by_cases h3 : ms.length = N
      · by_cases h4 : cs.length = N
        · exact absurd ⟨h1, h2, by omega, by omega⟩ h
        · exact .inr h4
      · exact .inl h3
    clear e1 hS h
    generalize ms.length = m at *
    generalize cs.length = c at *
    by_cases h3 : m = N
    · have h4 : c ≠ N := by omega
      have e3 : ((m : Int) != (N : Int)) = false := by simp [h3]
      have e4 : ((c : Int) != (N : Int)) = true := by simp; omega
      clear h3 h4 hd hN hpos
      go_enter Try.func36, Try.ntmps36
      go_wp2_with (go_at_call 28; refine (HS.out _).mono ?_; rintro e w' ⟨rfl, rfl⟩)
      go_ret2
      exact ⟨rfl, by (repeat (first | (with_reducible exact Below.refl _ _) | (with_reducible assumption) | (with_reducible exact Hid.out (by with_reducible assumption)) | (with_reducible refine Below.alloc ?_ ?_ _) | (with_reducible refine Below.setCell ?_ ?_ _) | (with_reducible refine below_drewN ?_ _) | (with_reducible refine Below.drew ?_) | (with_reducible refine below_via (by with_reducible assumption) ?_ ?_) | (first | (with_reducible assumption) | omega | (simp only [World.size_alloc, World.size_setCell, World.size_drew, World.heap_drewN] <;> omega) | (simp <;> omega))))⟩
    · have e3 : ((m : Int) != (N : Int)) = true := by simp; omega
      clear h3 hd hN hpos
      go_enter Try.func36, Try.ntmps36
      go_wp2_with (go_at_call 28; refine (HS.out _).mono ?_; rintro e w' ⟨rfl, rfl⟩)
      go_ret2
      exact ⟨rfl, by (repeat (first | (with_reducible exact Below.refl _ _) | (with_reducible assumption) | (with_reducible exact Hid.out (by with_reducible assumption)) | (with_reducible refine Below.alloc ?_ ?_ _) | (with_reducible refine Below.setCell ?_ ?_ _) | (with_reducible refine below_drewN ?_ _) | (with_reducible refine Below.drew ?_) | (with_reducible refine below_via (by with_reducible assumption) ?_ ?_) | (first | (with_reducible assumption) | omega | (simp only [World.size_alloc, World.size_setCell, World.size_drew, World.heap_drewN] <;> omega) | (simp <;> omega))))⟩
  · have hS := Size_err l (by omega)
    have HS := Lib.hid hS
    clear hS h hl
    go_enter Try.func36, Try.ntmps36
    go_wp2_with (go_at_call 28; refine (HS.out _).mono ?_; rintro e w' ⟨rfl, rfl⟩)
    go_ret2
    exact ⟨rfl, by (repeat (first | (with_reducible exact Below.refl _ _) | (with_reducible assumption) | (with_reducible exact Hid.out (by with_reducible assumption)) | (with_reducible refine Below.alloc ?_ ?_ _) | (with_reducible refine Below.setCell ?_ ?_ _) | (with_reducible refine below_drewN ?_ _) | (with_reducible refine Below.drew ?_) | (with_reducible refine below_via (by with_reducible assumption) ?_ ?_) | (first | (with_reducible assumption) | omega | (simp only [World.size_alloc, World.size_setCell, World.size_drew, World.heap_drewN] <;> omega) | (simp <;> omega))))⟩
end Go.Proofs.Ytelckhfmchnpnaa
