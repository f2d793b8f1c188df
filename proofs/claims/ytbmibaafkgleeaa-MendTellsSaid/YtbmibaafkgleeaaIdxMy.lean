/- Merged: IdxMay, IdxMayIx. -/
import Derived.Test.YtbmibaafkgleeaaIdxRd
import Derived.Test.YtbmibaafkgleeaaIdxFns
import Derived.Test.YtbmibaafkgleeaaHeapH
import Derived.BigRegion
import Derived.Deep.CutRange
import Derived.Deep.CutBlock
import Derived.Laws.StructEq
import Derived.Lib.QuietBelow
namespace Go.Proofs.Ytbmibaafkgleeaa
set_option linter.unusedVariables false
set_option linter.unusedSimpArgs false
section
open Go.RowKit

theorem joinR_iff {m c am ac bm bc : Int} : joinR m c am ac bm bc = true ↔ 0 ≤ ac ∧ 0 ≤ bc ∧ ac ≤ c ∧ bc = c - ac ∧ m = abM am bm bc ∧ c = abC ac bc ∧ (ac = 0 ∨ bc = 0 ∨ am < bm) := by
  simp only [joinR, Bool.and_eq_true, Bool.or_eq_true, decide_eq_true_eq]
  constructor
  · rintro ⟨⟨⟨⟨⟨h1, h2⟩, h3⟩, h4⟩, h5, h6⟩, h7⟩
    exact ⟨h1, h2, h3, h4, h5, h6, by omega⟩
  · rintro ⟨h1, h2, h3, h4, h5, h6, h7⟩
    exact ⟨⟨⟨⟨⟨h1, h2⟩, h3⟩, h4⟩, h5, h6⟩, by omega⟩
theorem all_up {p : Nat → Bool} {k : Nat} (h : allFrom p 1 k = true) (hp : p (k + 1) = true) : allFrom p 1 (k + 1) = true := by
  rw [allFrom_iff] at h ⊢
  intro m h1 h2
  by_cases e : m = k + 1
  · rw [e]; exact hp
  · exact h m h1 (by omega)

set_option maxHeartbeats 1000000 in
theorem May_bad (l : Int) (ma ca : Option Addr) (mc cc : Nat) (ms cs : List Int) (h : ¬ ixFit l ms cs) (w : World) :
    Calls Try.prog 44 #[ixV l ma ms.length mc ca cs.length cc] w (Ans w (.bool false)) := by
  by_cases hl : 1 ≤ l ∧ l ≤ 14
  · obtain ⟨h1, h2⟩ := hl
    obtain ⟨N, hN⟩ : ∃ N : Nat, 2 ^ l.toNat - 1 = N := ⟨_, rfl⟩
    have hpos := Nat.two_pow_pos l.toNat
    have e1 : (2 : Int) ^ l.toNat - 1 = (N : Int) := by
      have : (2 : Int) ^ l.toNat = ((2 ^ l.toNat : Nat) : Int) := by push_cast; rfl
      rw [this]; omega
    have hS := Many16_ok l (by omega) h2
    rw [e1] at hS
    have HI := Lib.hid (fun (n : Nat) => Calls.quiet_of_same ((Is16_yes l h1 h2 (((w.alloc (.cells #[.int .i64 l, .slice ma ms.length mc, .slice ca cs.length cc] 25)).drewN n))).mono fun _ _ h => ⟨h.1, h.2.symm⟩))
    have HM := Lib.hid (fun (n : Nat) => Calls.quiet_of_same ((hS (((w.alloc (.cells #[.int .i64 l, .slice ma ms.length mc, .slice ca cs.length cc] 25)).drewN n))).mono fun _ _ h => ⟨h.1, h.2.symm⟩))
    have hd : ms.length ≠ N ∨ cs.length ≠ ms.length := by
      by_cases h3 : ms.length = N
      · by_cases h4 : cs.length = N
        · exact absurd ⟨h1, h2, by omega, by omega⟩ h
        · exact .inr (by omega)
      · exact .inl h3
    clear e1 hS h
    generalize ms.length = m at *
    generalize cs.length = c at *
    by_cases h3 : m = N
    · have h4 : c ≠ m := by omega
      have e3 : ((m : Int) != (N : Int)) = false := by simp [h3]
      have e4 : ((c : Int) != (m : Int)) = true := by simp; omega
      clear h3 h4 hd hN hpos
      go_enter Try.func44, Try.ntmps44
      go_wp2
      go_quiet (first | exact HI.out _ | exact HM.out _)
      go_wp2
      go_ret
      exact ⟨rfl, by (repeat (first | with_reducible (first | exact Below.refl _ _ | assumption | exact Hid.out (by assumption) | refine Below.alloc ?_ ?_ _ | refine Below.setCell ?_ ?_ _ | refine below_drewN ?_ _ | refine Below.drew ?_ | refine below_via (by assumption) ?_ ?_) | (first | (with_reducible assumption) | omega | (simp only [szW] <;> omega) | (simp <;> omega))))⟩
    · have e3 : ((m : Int) != (N : Int)) = true := by simp; omega
      clear h3 hd hN hpos
      go_enter Try.func44, Try.ntmps44
      go_wp2
      go_quiet (first | exact HI.out _ | exact HM.out _)
      go_wp2
      go_ret
      exact ⟨rfl, by (repeat (first | with_reducible (first | exact Below.refl _ _ | assumption | exact Hid.out (by assumption) | refine Below.alloc ?_ ?_ _ | refine Below.setCell ?_ ?_ _ | refine below_drewN ?_ _ | refine Below.drew ?_ | refine below_via (by assumption) ?_ ?_) | (first | (with_reducible assumption) | omega | (simp only [szW] <;> omega) | (simp <;> omega))))⟩
  · have HI := Lib.hid (fun (n : Nat) => Calls.quiet_of_same ((Is16_no l (by omega) (((w.alloc (.cells #[.int .i64 l, .slice ma ms.length mc, .slice ca cs.length cc] 25)).drewN n))).mono fun _ _ h => ⟨h.1, h.2.symm⟩))
    clear h hl
    go_enter Try.func44, Try.ntmps44
    go_wp2
    go_quiet (exact HI.out _)
    go_wp2
    go_ret
    exact ⟨rfl, by (repeat (first | with_reducible (first | exact Below.refl _ _ | assumption | exact Hid.out (by assumption) | refine Below.alloc ?_ ?_ _ | refine Below.setCell ?_ ?_ _ | refine below_drewN ?_ _ | refine Below.drew ?_ | refine below_via (by assumption) ?_ ?_) | (first | (with_reducible assumption) | omega | (simp only [szW] <;> omega) | (simp <;> omega))))⟩

set_option maxRecDepth 100000 in
set_option maxHeartbeats 4000000 in
theorem May_fit (L N : Nat) (l : Int) (hl : l = L) (h1 : 1 ≤ L) (h2 : L ≤ 14) (hN : N + 1 = 2 ^ L) (ma ca : Option Addr) (mc cc : Nat) (ms cs : List Int) (hlm : ms.length = N) (hlc : cs.length = N) (w : World)
    (hm : IsRow .i64 w ma ms) (hc : IsRow .i64 w ca cs) :
    Calls Try.prog 44 #[ixV l ma N mc ca N cc] w (Ans w (.bool (allFrom (ndB L ms cs) 1 N))) := by
  have hp : 2 ^ L ≤ 16384 := Nat.pow_le_pow_right (by omega) h2
  have hMb : N + 1 ≤ 16384 := by omega
  have hN1 : 0 < N := by have : 2 ^ 1 ≤ 2 ^ L := Nat.pow_le_pow_right (by omega) h1; omega
  have e1 : (2 : Int) ^ l.toNat - 1 = (N : Int) := by
    have : (2 : Int) ^ l.toNat = ((2 ^ L : Nat) : Int) := by rw [show l.toNat = L by omega]; push_cast; rfl
    rw [this]; omega
  obtain ⟨F, hF⟩ : ∃ F : Nat, 2 ^ (L - 1) = F := ⟨_, rfl⟩
  have hFN : N + 1 = 2 * F := by
    obtain ⟨q, rfl⟩ : ∃ q, L = q + 1 := ⟨L - 1, by omega⟩
    rw [Nat.pow_succ] at hN
    rw [show q + 1 - 1 = q by omega] at hF
    omega
  have e2 : (2 : Int) ^ (l.toNat - 1) = (F : Int) := by
    rw [← hF, show l.toNat = L by omega]; push_cast; rfl
  have hS := Many16_ok l (by omega) (by omega)
  rw [e1] at hS
  have hFi := First_ok l (by omega) (by omega)
  rw [e2] at hFi
  have HFI := Lib.hid hFi
  have HI := Lib.hid (fun (n : Nat) => Calls.quiet_of_same ((Is16_yes l (by omega) (by omega) (((w.alloc (.cells #[.int .i64 l, .slice ma N mc, .slice ca N cc] 25)).drewN n))).mono fun _ _ h => ⟨h.1, h.2.symm⟩))
  have HM := Lib.hid (fun (n : Nat) => Calls.quiet_of_same ((hS (((w.alloc (.cells #[.int .i64 l, .slice ma N mc, .slice ca N cc] 25)).drewN n))).mono fun _ _ h => ⟨h.1, h.2.symm⟩))
  have HA := Lib.hid (fun (W : World) (hb : Below w.heap.size w W) => All_ok L N l hl h1 h2 hN ma ca mc cc ms cs hlm hlc W (hm.below hb) (hc.below hb))
  have HN := Lib.hid hN
  generalize hr : allFrom (ndB L ms cs) 1 N = r
  have HRR := Lib.hid hr
  clear hr hN hp hm hc hlm hlc hl h1 h2 hF e1 e2 hS hFi
  have HFN := Lib.hid hFN
  clear hFN
  go_enter Try.func44, Try.ntmps44
  go_wp2
  go_quiet (first | exact HI.out _ | exact HM.out _)
  go_wp2_with fail
  refine (HA.out _ (by (repeat (first | with_reducible (first | exact Below.refl _ _ | assumption | exact Hid.out (by assumption) | refine Below.alloc ?_ ?_ _ | refine Below.setCell ?_ ?_ _ | refine below_drewN ?_ _ | refine Below.drew ?_ | refine below_via (by assumption) ?_ ?_) | (first | (with_reducible assumption) | omega | (simp only [szW] <;> omega) | (simp <;> omega)))))).mono ?_
  rintro e w1 ⟨g, rfl, ho, hb⟩
  have hg := (ho.lt g rfl)
  simp only [World.heap_drewN, World.size_alloc] at hg hb ho
  have c0 : w1.cell? ⟨w.heap.size, 0, none⟩ = some (.int .i64 l) := (hb.cell (p := ⟨w.heap.size, 0, none⟩) (by simp)).trans (by rw [World.cell?_drewN]; ((try simp (disch := first | omega | (simp only [szW] <;> omega) | fail) only [ceW]) <;> rfl))
  have HO := Lib.hid ho
  have HB := Lib.hid (below_via hb (below_drewN ((Below.refl _ w).alloc (Nat.le_refl _) _) _) (by omega))
  clear ho hb
  go_wp2
  go_loopg [4] N (fun gk i wr => ∃ k : Nat, k + gk = N ∧ i = .int .i64 ((k : Int) + 1) ∧ w.heap.size < wr.heap.size ∧ g < wr.heap.size ∧ wr.cell? ⟨w.heap.size, 0, none⟩ = some (.int .i64 l) ∧
      Hid (∃ B, w.heap.size ≤ B ∧ wr.ownsRow B 125 2 (.slice (some ⟨g, 0, none⟩) (N + 1) (N + 1)) (N + 1) (nrRow (tlF L ms) (tlF L cs) (N + 1))) ∧ Hid (Below w.heap.size w wr) ∧ Hid (allFrom (ndB L ms cs) 1 k = true))
  case atStart => exact ⟨0, by omega, rfl, by omega, hg.2, c0, Lib.hid ⟨_, by omega, HO.out⟩, HB, Lib.hid rfl⟩
  case round =>
    obtain ⟨k, hk, rfl, hz0, hgw, c0, HO, HB, HA⟩ := hrel
    have HK := Lib.hid hk
    by_cases hlt : k < N
    · obtain ⟨B, hB, ho⟩ := HO.out
      obtain ⟨d0, d1⟩ := nr_cells ho (n := k + 1) (by omega)
      have HF := Lib.hid (fun n (hn : n < N + 1) => nr_cells ho hn)
      have hb : ndB L ms cs (k + 1) = (ownB (tlF L ms (k + 1)) (tlF L cs (k + 1)) && (decide (2 ^ L - 1 < 2 * (k + 1)) || joinR (tlF L ms (k + 1)) (tlF L cs (k + 1)) (tlF L ms (2 * (k + 1))) (tlF L cs (2 * (k + 1))) (tlF L ms (2 * (k + 1) + 1)) (tlF L cs (2 * (k + 1) + 1)))) := rfl
      have HBB := Lib.hid hb
      clear hb ho
      obtain ⟨m, hm⟩ : ∃ m, tlF L ms (k + 1) = m := ⟨_, rfl⟩
      obtain ⟨c, hc⟩ : ∃ c, tlF L cs (k + 1) = c := ⟨_, rfl⟩
      rw [hm, hc] at HBB
      rw [hm] at d0
      rw [hc] at d1
      have HM := Lib.hid hm
      have HC := Lib.hid hc
      have h5 : ((k : Int) + 1).toNat = k + 1 := by omega
      clear hm hc hk
      by_cases hown : ownB m c = true
      · have ho2 : 0 ≤ c ∧ c ≤ 65536 ∧ (c ≠ 0 ∨ m = 0) := by
          simp only [ownB, Bool.and_eq_true, Bool.or_eq_true, decide_eq_true_eq] at hown
          omega
        obtain ⟨ho3, ho4, ho5⟩ := ho2
        have HO5 := Lib.hid ho5
        clear ho5
        go_upto_region 7 with fail
        go_cut [66] from 31 to 129 (fun b wx => b = .bool false ∧ wr = wx)
        case first =>
          by_cases h0 : c = 0
          · have hm0 : m = 0 := by have := HO5.out; omega
            have e1 : (c == 0) = true := by simpa using h0
            have e2 : (m != 0) = false := by simpa using hm0
            clear h0 hm0
            go_wp2
            go_meet
            case rel => exact ⟨by simp <;> omega, rfl⟩
          · have e1 : (c == 0) = false := by simpa using h0
            clear h0
            go_wp2
            go_meet
            case rel => exact ⟨by simp <;> omega, rfl⟩
        case rest =>
          obtain ⟨rfl, rfl⟩ := hcut
          by_cases h2k : F ≤ k + 1
          · go_wp2_with (go_at_call 45; refine (HFI.out _).mono ?_; rintro e w' ⟨rfl, rfl⟩)
            go_roundg (gk - 1)
            case measure => have := HK.out; omega
            case rel =>
              have hnd : ndB L ms cs (k + 1) = true := by
                have h9 : 2 ^ L - 1 < 2 * (k + 1) := by have := HN.out; have := HFN.out; omega
                rw [HBB.out, hown, decide_eq_true h9]
                rfl
              exact ⟨k + 1, by have := HK.out; omega, by push_cast; rfl, hz0, hgw, c0, HO, HB, Lib.hid (all_up HA.out hnd)⟩
          · obtain ⟨j, hj⟩ : ∃ j, 2 * (k + 1) = j := ⟨_, rfl⟩
            have hjN : j + 1 ≤ N := by have := HFN.out; omega
            obtain ⟨g0, g1⟩ := HF.out j (by omega)
            obtain ⟨g2, g3⟩ := HF.out (j + 1) (by omega)
            have hbb := HBB.out
            rw [hj] at hbb
            have hnl : decide (2 ^ L - 1 < j) = false := by have := HN.out; simp; omega
            rw [hown, hnl, Bool.true_and, Bool.false_or] at hbb
            generalize tlF L ms j = am at g0 hbb
            generalize tlF L cs j = ac at g1 hbb
            generalize tlF L ms (j + 1) = bm at g2 hbb
            generalize tlF L cs (j + 1) = bc at g3 hbb
            have HBJ := Lib.hid hbb
            have w1 : IntKind.i64.wrap (2 * ((k : Int) + 1)) = (j : Int) := by rw [show (2 : Int) * ((k : Int) + 1) = (j : Int) by omega]; exact IntWalk.i64_in _ (by omega)
            have w2 : IntKind.i64.wrap ((j : Int) + 1) = (j : Int) + 1 := IntWalk.i64_in _ (by omega)
            have w3 : ((j : Int) + 1).toNat = j + 1 := by omega
            have HJ := Lib.hid hj
            clear hbb hnl hj
            go_wp2_with (go_at_call 45; refine (HFI.out _).mono ?_; rintro e w' ⟨rfl, rfl⟩)
            go_upto_region 10 with fail
            go_cut [5, 6] from 31 to 129 (fun p q wx => ∃ b7 b8 : Nat, p = .pointer (some ⟨b7, 0, none⟩) ∧ q = .pointer (some ⟨b8, 0, none⟩) ∧ wx.cell? ⟨b7, 0, none⟩ = some (.int .i64 am) ∧ wx.cell? ⟨b7, 1, none⟩ = some (.int .i64 ac) ∧ wx.cell? ⟨b8, 0, none⟩ = some (.int .i64 bm) ∧ wx.cell? ⟨b8, 1, none⟩ = some (.int .i64 bc) ∧
              Hid (Below wr.heap.size wr wx))
            case first =>
              have p0 : (wr.alloc (.cells #[.int .i64 0, .int .i64 0] 125)).cell? ⟨g, j * 2, none⟩ = some (.int .i64 am) := by (first | (with_reducible assumption) | ((try simp (disch := first | omega | (simp only [szW] <;> omega) | fail) only [ceW]) <;> first | (with_reducible assumption) | rfl))
              have p1 : (wr.alloc (.cells #[.int .i64 0, .int .i64 0] 125)).cell? ⟨g, j * 2 + 1, none⟩ = some (.int .i64 ac) := by (first | (with_reducible assumption) | ((try simp (disch := first | omega | (simp only [szW] <;> omega) | fail) only [ceW]) <;> first | (with_reducible assumption) | rfl))
              have p2 : (wr.alloc (.cells #[.int .i64 0, .int .i64 0] 125)).cell? ⟨g, (j + 1) * 2, none⟩ = some (.int .i64 bm) := by (first | (with_reducible assumption) | ((try simp (disch := first | omega | (simp only [szW] <;> omega) | fail) only [ceW]) <;> first | (with_reducible assumption) | rfl))
              have p3 : (wr.alloc (.cells #[.int .i64 0, .int .i64 0] 125)).cell? ⟨g, (j + 1) * 2 + 1, none⟩ = some (.int .i64 bc) := by (first | (with_reducible assumption) | ((try simp (disch := first | omega | (simp only [szW] <;> omega) | fail) only [ceW]) <;> first | (with_reducible assumption) | rfl))
              have q0 : ((wr.alloc (.cells #[.int .i64 0, .int .i64 0] 125)).alloc (.cells #[.int .i64 0, .int .i64 0] 125)).cell? ⟨g, j * 2, none⟩ = some (.int .i64 am) := by (first | (with_reducible assumption) | ((try simp (disch := first | omega | (simp only [szW] <;> omega) | fail) only [ceW]) <;> first | (with_reducible assumption) | rfl))
              have q1 : ((wr.alloc (.cells #[.int .i64 0, .int .i64 0] 125)).alloc (.cells #[.int .i64 0, .int .i64 0] 125)).cell? ⟨g, j * 2 + 1, none⟩ = some (.int .i64 ac) := by (first | (with_reducible assumption) | ((try simp (disch := first | omega | (simp only [szW] <;> omega) | fail) only [ceW]) <;> first | (with_reducible assumption) | rfl))
              have q2 : ((wr.alloc (.cells #[.int .i64 0, .int .i64 0] 125)).alloc (.cells #[.int .i64 0, .int .i64 0] 125)).cell? ⟨g, (j + 1) * 2, none⟩ = some (.int .i64 bm) := by (first | (with_reducible assumption) | ((try simp (disch := first | omega | (simp only [szW] <;> omega) | fail) only [ceW]) <;> first | (with_reducible assumption) | rfl))
              have q3 : ((wr.alloc (.cells #[.int .i64 0, .int .i64 0] 125)).alloc (.cells #[.int .i64 0, .int .i64 0] 125)).cell? ⟨g, (j + 1) * 2 + 1, none⟩ = some (.int .i64 bc) := by (first | (with_reducible assumption) | ((try simp (disch := first | omega | (simp only [szW] <;> omega) | fail) only [ceW]) <;> first | (with_reducible assumption) | rfl))
              have r2 : ((wr.alloc (.cells #[.int .i64 0, .int .i64 0] 125)).alloc (.cells #[.int .i64 am, .int .i64 ac] 125)).cell? ⟨g, (j + 1) * 2, none⟩ = some (.int .i64 bm) := by (first | (with_reducible assumption) | ((try simp (disch := first | omega | (simp only [szW] <;> omega) | fail) only [ceW]) <;> first | (with_reducible assumption) | rfl))
              have r3 : ((wr.alloc (.cells #[.int .i64 0, .int .i64 0] 125)).alloc (.cells #[.int .i64 am, .int .i64 ac] 125)).cell? ⟨g, (j + 1) * 2 + 1, none⟩ = some (.int .i64 bc) := by (first | (with_reducible assumption) | ((try simp (disch := first | omega | (simp only [szW] <;> omega) | fail) only [ceW]) <;> first | (with_reducible assumption) | rfl))
              have s2 : ((wr.alloc (.cells #[.int .i64 am, .int .i64 ac] 125)).alloc (.cells #[.int .i64 0, .int .i64 0] 125)).cell? ⟨g, (j + 1) * 2, none⟩ = some (.int .i64 bm) := by (first | (with_reducible assumption) | ((try simp (disch := first | omega | (simp only [szW] <;> omega) | fail) only [ceW]) <;> first | (with_reducible assumption) | rfl))
              have s3 : ((wr.alloc (.cells #[.int .i64 am, .int .i64 ac] 125)).alloc (.cells #[.int .i64 0, .int .i64 0] 125)).cell? ⟨g, (j + 1) * 2 + 1, none⟩ = some (.int .i64 bc) := by (first | (with_reducible assumption) | ((try simp (disch := first | omega | (simp only [szW] <;> omega) | fail) only [ceW]) <;> first | (with_reducible assumption) | rfl))
              go_region
              all_goals (try go_wp2)
              all_goals go_meet
              case rel => exact ⟨wr.heap.size, wr.heap.size + 1, rfl, rfl, by (first | (with_reducible assumption) | ((try simp (disch := first | omega | (simp only [szW] <;> omega) | fail) only [ceW]) <;> first | (with_reducible assumption) | rfl)), by (first | (with_reducible assumption) | ((try simp (disch := first | omega | (simp only [szW] <;> omega) | fail) only [ceW]) <;> first | (with_reducible assumption) | rfl)), by (first | (with_reducible assumption) | ((try simp (disch := first | omega | (simp only [szW] <;> omega) | fail) only [ceW]) <;> first | (with_reducible assumption) | rfl)), by (first | (with_reducible assumption) | ((try simp (disch := first | omega | (simp only [szW] <;> omega) | fail) only [ceW]) <;> first | (with_reducible assumption) | rfl)), Lib.hid (by (repeat (first | with_reducible (first | exact Below.refl _ _ | assumption | exact Hid.out (by assumption) | refine Below.alloc ?_ ?_ _ | refine Below.setCell ?_ ?_ _ | refine below_drewN ?_ _ | refine Below.drew ?_ | refine below_via (by assumption) ?_ ?_) | (first | (with_reducible assumption) | omega | (simp only [szW] <;> omega) | (simp <;> omega)))))⟩
              case rel => exact ⟨wr.heap.size + 1, wr.heap.size, rfl, rfl, by (first | (with_reducible assumption) | ((try simp (disch := first | omega | (simp only [szW] <;> omega) | fail) only [ceW]) <;> first | (with_reducible assumption) | rfl)), by (first | (with_reducible assumption) | ((try simp (disch := first | omega | (simp only [szW] <;> omega) | fail) only [ceW]) <;> first | (with_reducible assumption) | rfl)), by (first | (with_reducible assumption) | ((try simp (disch := first | omega | (simp only [szW] <;> omega) | fail) only [ceW]) <;> first | (with_reducible assumption) | rfl)), by (first | (with_reducible assumption) | ((try simp (disch := first | omega | (simp only [szW] <;> omega) | fail) only [ceW]) <;> first | (with_reducible assumption) | rfl)), Lib.hid (by (repeat (first | with_reducible (first | exact Below.refl _ _ | assumption | exact Hid.out (by assumption) | refine Below.alloc ?_ ?_ _ | refine Below.setCell ?_ ?_ _ | refine below_drewN ?_ _ | refine Below.drew ?_ | refine below_via (by assumption) ?_ ?_) | (first | (with_reducible assumption) | omega | (simp only [szW] <;> omega) | (simp <;> omega)))))⟩
            case rest =>
              obtain ⟨b7, b8, rfl, rfl, y0, y1, z0, z1, HBX⟩ := hcut
              have x0 := (HBX.out.cell (p := ⟨g, (k + 1) * 2, none⟩) hgw).trans d0
              have x1 := (HBX.out.cell (p := ⟨g, (k + 1) * 2 + 1, none⟩) hgw).trans d1
              have hzx := HBX.out.size
              go_upto_region 11 with fail
              obtain ⟨z, hz⟩ : ∃ z, joinR m c am ac bm bc = z := ⟨_, rfl⟩
              rw [hz] at HBJ
              obtain ⟨x, hx⟩ : ∃ x, abM am bm bc = x := ⟨_, rfl⟩
              obtain ⟨y, hy⟩ : ∃ y, abC ac bc = y := ⟨_, rfl⟩
              have AB := Lib.hid (fun (q : 0 ≤ ac ∧ ac ≤ 65536 ∧ 0 ≤ bc ∧ bc ≤ 65536) W => above18_ok am ac bm bc q.1 q.2.1 q.2.2.1 q.2.2.2 W)
              rw [hx, hy] at AB
              have HZ := Lib.hid hz
              have HX := Lib.hid hx
              have HY := Lib.hid hy
              have k0 := cell_regrown x0
              have k1 := cell_regrown x1
              have k2 := cell_regrown y0
              have k3 := cell_regrown y1
              have k4 := cell_regrown z0
              have k5 := cell_regrown z1
              have CR := Lib.hid (fun d os => Calls.regrown_of (w := wc) (d := d) (os := os) (right_ok am ac bm bc (Sort.grow (redrawn wc d) os)))
              clear hz hx hy d0 d1 g0 g1 g2 g3 w1 w2 w3
              go_cut [129] from 31 to 129 (fun b wx => b = .bool (!z) ∧ Hid (Below wr.heap.size wr wx))
              case first =>
                by_cases hA : ac < 0
                · have eA : decide (ac < 0) = true := decide_eq_true hA
                  have hzv : z = false := by have := fun h => joinR_iff.1 (HZ.out.trans h); cases z with | true => exact absurd (this rfl) (by rw [HX.out, HY.out]; omega) | false => rfl
                  refine wp_region_quiet_below (by kernel_rfl) (by kernel_rfl) ?_
                  repeat (go_big_quiet_step (first | exact CR.out _ _))
                  refine wpQuiet_nil ?_
                  intro _ hw'
                  obtain ⟨⟨dq, osq⟩, hw''⟩ := hw'
                  subst hw''
                  try go_wp2
                  go_meet
                  case rel => exact ⟨by rw [hzv]; simp <;> omega, Lib.hid (HBX.out.trans ((below_regrown wc dq osq).mono (by omega)))⟩
                · have eA : decide (ac < 0) = false := decide_eq_false hA
                  by_cases hB : bc < 0
                  · have eB : decide (bc < 0) = true := decide_eq_true hB
                    have hzv : z = false := by have := fun h => joinR_iff.1 (HZ.out.trans h); cases z with | true => exact absurd (this rfl) (by rw [HX.out, HY.out]; omega) | false => rfl
                    refine wp_region_quiet_below (by kernel_rfl) (by kernel_rfl) ?_
                    repeat (go_big_quiet_step (first | exact CR.out _ _))
                    refine wpQuiet_nil ?_
                    intro _ hw'
                    obtain ⟨⟨dq, osq⟩, hw''⟩ := hw'
                    subst hw''
                    try go_wp2
                    go_meet
                    case rel => exact ⟨by rw [hzv]; simp <;> omega, Lib.hid (HBX.out.trans ((below_regrown wc dq osq).mono (by omega)))⟩
                  · have eB : decide (bc < 0) = false := decide_eq_false hB
                    by_cases hG : c < ac
                    · have eG : decide (c < ac) = true := decide_eq_true hG
                      have hzv : z = false := by have := fun h => joinR_iff.1 (HZ.out.trans h); cases z with | true => exact absurd (this rfl) (by rw [HX.out, HY.out]; omega) | false => rfl
                      refine wp_region_quiet_below (by kernel_rfl) (by kernel_rfl) ?_
                      repeat (go_big_quiet_step (first | exact CR.out _ _))
                      refine wpQuiet_nil ?_
                      intro _ hw'
                      obtain ⟨⟨dq, osq⟩, hw''⟩ := hw'
                      subst hw''
                      try go_wp2
                      go_meet
                      case rel => exact ⟨by rw [hzv]; simp <;> omega, Lib.hid (HBX.out.trans ((below_regrown wc dq osq).mono (by omega)))⟩
                    · have eG : decide (c < ac) = false := decide_eq_false hG
                      have hws : IntKind.i64.wrap (c - ac) = c - ac := IntWalk.i64_in _ (by omega)
                      by_cases hS : bc = c - ac
                      · have eS : (bc != c - ac) = false := by simpa using hS
                        have hS2 : bc ≤ 65536 := by omega
                        have hS3 : ac + bc = c := by omega
                        have HS := Lib.hid hS
                        have CA := Lib.hid (fun d os => Calls.regrown_of (w := wc) (d := d) (os := os) (AB.out ⟨by omega, by omega, by omega, by omega⟩ (Sort.grow (redrawn wc d) os)))
                        clear hS hS3
                        by_cases hC : m = x
                        · have HC1 := Lib.hid hC
                          have eC : (m = x) = True := eq_true hC
                          clear hC
                          by_cases hD : c = y
                          · have HD1 := Lib.hid hD
                            have eD : (c = y) = True := eq_true hD
                            clear hD
                            have hzv : z = rtB am ac bm bc := by rw [← HZ.out]; unfold joinR rtB; rw [HX.out, HY.out, decide_eq_true (by omega : 0 ≤ ac), decide_eq_true (by omega : 0 ≤ bc), decide_eq_true (by omega : ac ≤ c), decide_eq_true HS.out, decide_eq_true HC1.out, decide_eq_true HD1.out]; rfl
                            refine wp_region_quiet_below (by kernel_rfl) (by kernel_rfl) ?_
                            repeat (go_big_quiet_step (first | exact CA.out _ _ | exact CR.out _ _))
                            refine wpQuiet_nil ?_
                            intro _ hw'
                            obtain ⟨⟨dq, osq⟩, hw''⟩ := hw'
                            subst hw''
                            try go_wp2
                            go_meet
                            case rel => exact ⟨by rw [hzv], Lib.hid (HBX.out.trans ((below_regrown wc dq osq).mono (by omega)))⟩
                          · have hzv : z = false := by have := fun h => joinR_iff.1 (HZ.out.trans h); cases z with | true => exact absurd (this rfl) (by rw [HX.out, HY.out]; omega) | false => rfl
                            refine wp_region_quiet_below (by kernel_rfl) (by kernel_rfl) ?_
                            repeat (go_big_quiet_step (first | exact CA.out _ _ | exact CR.out _ _))
                            refine wpQuiet_nil ?_
                            intro _ hw'
                            obtain ⟨⟨dq, osq⟩, hw''⟩ := hw'
                            subst hw''
                            try go_wp2
                            go_meet
                            case rel => exact ⟨by rw [hzv]; simp <;> omega, Lib.hid (HBX.out.trans ((below_regrown wc dq osq).mono (by omega)))⟩
                        · have hzv : z = false := by have := fun h => joinR_iff.1 (HZ.out.trans h); cases z with | true => exact absurd (this rfl) (by rw [HX.out, HY.out]; omega) | false => rfl
                          refine wp_region_quiet_below (by kernel_rfl) (by kernel_rfl) ?_
                          repeat (go_big_quiet_step (first | exact CA.out _ _ | exact CR.out _ _))
                          refine wpQuiet_nil ?_
                          intro _ hw'
                          obtain ⟨⟨dq, osq⟩, hw''⟩ := hw'
                          subst hw''
                          try go_wp2
                          go_meet
                          case rel => exact ⟨by rw [hzv]; simp <;> omega, Lib.hid (HBX.out.trans ((below_regrown wc dq osq).mono (by omega)))⟩
                      · have eS : (bc != c - ac) = true := by simpa using hS
                        have hzv : z = false := by have := fun h => joinR_iff.1 (HZ.out.trans h); cases z with | true => exact absurd (this rfl) (by rw [HX.out, HY.out]; omega) | false => rfl
                        refine wp_region_quiet_below (by kernel_rfl) (by kernel_rfl) ?_
                        repeat (go_big_quiet_step (first | exact CR.out _ _))
                        refine wpQuiet_nil ?_
                        intro _ hw'
                        obtain ⟨⟨dq, osq⟩, hw''⟩ := hw'
                        subst hw''
                        try go_wp2
                        go_meet
                        case rel => exact ⟨by rw [hzv]; simp <;> omega, Lib.hid (HBX.out.trans ((below_regrown wc dq osq).mono (by omega)))⟩
              case rest =>
                obtain ⟨rfl, HBY⟩ := hcut
                have hWz := HBY.out.size
                cases z with
                | true =>
                  go_wp2
                  go_roundg (gk - 1)
                  case measure => have := HK.out; omega
                  case rel =>
                    obtain ⟨B, hB, ho⟩ := HO.out
                    exact ⟨k + 1, by have := HK.out; omega, by push_cast; rfl, by omega, by omega, (HBY.out.cell (p := ⟨w.heap.size, 0, none⟩) hz0).trans c0, Lib.hid ⟨B, hB, owns_below ho HBY.out⟩, Lib.hid (HB.out.trans (HBY.out.mono (by omega))), Lib.hid (all_up HA.out HBJ.out)⟩
                | false =>
                  have he : allFrom (ndB L ms cs) 1 N = false := allFrom_not (m := k + 1) (by omega) (by omega) HBJ.out
                  have he := HRR.out.symm.trans he
                  subst he
                  go_wp2
                  go_ret
                  exact ⟨rfl, HB.out.trans (HBY.out.mono (by omega))⟩
      · have hs : c < 0 ∨ 65536 < c ∨ (0 ≤ c ∧ c ≤ 65536 ∧ c = 0 ∧ m ≠ 0) := by
          simp only [ownB, Bool.and_eq_true, Bool.or_eq_true, decide_eq_true_eq] at hown
          omega
        have he : allFrom (ndB L ms cs) 1 N = false := allFrom_not (m := k + 1) (by omega) (by omega) (by rw [HBB.out]; simp [hown])
        have he := HRR.out.symm.trans he
        subst he
        clear hown
        rcases hs with hs | hs | ⟨hs1, hs2, hs3, hs4⟩
        · go_wp2
          go_ret
          exact ⟨rfl, by have := HB.out; (repeat (first | with_reducible (first | exact Below.refl _ _ | assumption | exact Hid.out (by assumption) | refine Below.alloc ?_ ?_ _ | refine Below.setCell ?_ ?_ _ | refine below_drewN ?_ _ | refine Below.drew ?_ | refine below_via (by assumption) ?_ ?_) | (first | (with_reducible assumption) | omega | (simp only [szW] <;> omega) | (simp <;> omega))))⟩
        · go_wp2
          go_ret
          exact ⟨rfl, by have := HB.out; (repeat (first | with_reducible (first | exact Below.refl _ _ | assumption | exact Hid.out (by assumption) | refine Below.alloc ?_ ?_ _ | refine Below.setCell ?_ ?_ _ | refine below_drewN ?_ _ | refine Below.drew ?_ | refine below_via (by assumption) ?_ ?_) | (first | (with_reducible assumption) | omega | (simp only [szW] <;> omega) | (simp <;> omega))))⟩
        · have e1 : (c == 0) = true := by simpa using hs3
          have e2 : (m != 0) = true := by simpa using hs4
          clear hs3 hs4
          go_wp2
          go_ret
          exact ⟨rfl, by have := HB.out; (repeat (first | with_reducible (first | exact Below.refl _ _ | assumption | exact Hid.out (by assumption) | refine Below.alloc ?_ ?_ _ | refine Below.setCell ?_ ?_ _ | refine below_drewN ?_ _ | refine Below.drew ?_ | refine below_via (by assumption) ?_ ?_) | (first | (with_reducible assumption) | omega | (simp only [szW] <;> omega) | (simp <;> omega))))⟩
    · have hk0 : k = N := by omega
      have he := HA.out
      rw [hk0] at he
      have he := HRR.out.symm.trans he
      subst he
      clear hk0 he hk
      go_wp2
      go_ret
      exact ⟨rfl, HB.out⟩
end

section
open Go.RowKit

theorem May_ix (l : Int) (ma ca : Option Addr) (mc cc : Nat) (ms cs : List Int) (w : World) (hm : IsRow .i64 w ma ms) (hc : IsRow .i64 w ca cs) :
    Calls Try.prog 44 #[ixV l ma ms.length mc ca cs.length cc] w (Ans w (.bool (ixMay l ms cs))) := by
  by_cases h : ixFit l ms cs
  · have e : ixMay l ms cs = allFrom (ndB l.toNat ms cs) 1 (2 ^ l.toNat - 1) := by
      unfold ixMay
      rw [decide_eq_true h, Bool.true_and]
    obtain ⟨h1, h2, h3, h4⟩ := h
    rw [e, h3, h4]
    have hp := Nat.two_pow_pos l.toNat
    exact May_fit l.toNat (2 ^ l.toNat - 1) l (by omega) (by omega) (by omega) (by omega) ma ca mc cc ms cs h3 h4 w hm hc
  · have e : ixMay l ms cs = false := by
      unfold ixMay
      rw [decide_eq_false h, Bool.false_and]
    rw [e]
    exact May_bad l ma ca mc cc ms cs h w
end
end Go.Proofs.Ytbmibaafkgleeaa
