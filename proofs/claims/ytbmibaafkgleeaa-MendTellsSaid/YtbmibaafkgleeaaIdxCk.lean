/- Merged: IdxCheck, IdxAt. -/
import Derived.Test.YtbmibaafkgleeaaIdxRd
import Derived.BigRegion
import Derived.Deep.RegionHeld3
import Derived.Deep.CutRange
import Derived.Deep.CutBlock
import Derived.Laws.StructEq
namespace Go.Proofs.Ytbmibaafkgleeaa
set_option linter.unusedVariables false
set_option linter.unusedSimpArgs false
section
open Go.RowKit

theorem Check_bad (l : Int) (ma ca : Option Addr) (mc cc : Nat) (ms cs : List Int) (h : ¬ ixFit l ms cs) (w : World) :
    Calls Try.prog 38 #[ixV l ma ms.length mc ca cs.length cc] w (Ans w (.int .i64 8)) := by
  have HR := Lib.hid (fun w => read_bad l ma ca mc cc ms cs h w)
  clear h
  go_enter Try.func38, Try.ntmps38
  go_wp2_with (go_at_call 72; refine (HR.out _).mono ?_; rintro e w1 ⟨rfl, hb⟩)
  go_ret
  exact ⟨rfl, by (repeat (first | with_reducible (first | exact Below.refl _ _ | assumption | exact Hid.out (by assumption) | refine Below.alloc ?_ ?_ _ | refine Below.setCell ?_ ?_ _ | refine below_drewN ?_ _ | refine Below.drew ?_ | refine below_via (by assumption) ?_ ?_) | (first | (with_reducible assumption) | omega | (simp only [szW] <;> omega) | (simp <;> omega))))⟩

/-- two numbers of an element, behind one name each -/
theorem nd_cells {w : World} {B g N : Nat} {a b c : Nat → Int} (h : w.ownsRow B 95 3 (.slice (some ⟨g, 0, none⟩) (N + 1) (N + 1)) (N + 1) (ndRow a b c (N + 1))) {n : Nat} (hn : n < N + 1) :
    w.cell? ⟨g, n * 3, none⟩ = some (.int .i64 (a n)) ∧ w.cell? ⟨g, n * 3 + 1, none⟩ = some (.int .i64 (b n)) := by
  have hlen : (flat3 a b c (N + 1)).length = (N + 1) * 3 := flat3_length
  obtain ⟨d0, -⟩ := own_cell h (j := n * 3) (by omega)
  obtain ⟨d1, -⟩ := own_cell h (j := n * 3 + 1) (by omega)
  rw [flat3_0 hn] at d0
  rw [flat3_1 hn] at d1
  exact ⟨d0, d1⟩
theorem joinP_iff {m c am ac bm bc : Int} : joinP m c am ac bm bc = true ↔ ac ≤ c ∧ bc ≤ c ∧ m = abM am bm bc ∧ c = abC ac bc ∧ ¬ (0 < ac ∧ 0 < bc ∧ bm ≤ am) := by
  simp only [joinP, Bool.and_eq_true, decide_eq_true_eq, Bool.not_eq_true', Bool.and_eq_false_iff, decide_eq_false_iff_not]
  constructor
  · rintro ⟨⟨⟨h1, h2⟩, h3, h4⟩, h5⟩
    exact ⟨h1, h2, h3, h4, by omega⟩
  · rintro ⟨h1, h2, h3, h4, h5⟩
    exact ⟨⟨⟨h1, h2⟩, h3, h4⟩, by omega⟩
theorem all_down {p : Nat → Bool} {k N : Nat} (h : allFrom p (k + 1) (N - k) = true) (hp : p k = true) (h0 : 0 < k) (hk : k ≤ N) : allFrom p (k - 1 + 1) (N - (k - 1)) = true := by
  rw [allFrom_iff] at h ⊢
  intro m h1 h2
  by_cases e : m = k
  · rw [e]; exact hp
  · exact h m (by omega) (by omega)
theorem ndB_own {L : Nat} {ms cs : List Int} {n : Nat} (h : ndB L ms cs n = true) : ownB (tlF L ms n) (tlF L cs n) = true := by
  unfold ndB at h
  rw [Bool.and_eq_true] at h
  exact h.1
set_option maxRecDepth 100000 in
set_option maxHeartbeats 4000000 in
theorem Check_fit (L N : Nat) (l : Int) (hl : l = L) (h1 : 1 ≤ L) (h2 : L ≤ 14) (hN : N + 1 = 2 ^ L) (ma ca : Option Addr) (mc cc : Nat) (ms cs : List Int) (hlm : ms.length = N) (hlc : cs.length = N) (w : World)
    (hm : IsRow .i64 w ma ms) (hc : IsRow .i64 w ca cs) :
    Calls Try.prog 38 #[ixV l ma N mc ca N cc] w (Ans w (.int .i64 (if allFrom (ndB L ms cs) 1 N = true then 0 else 8))) := by
  have hp : 2 ^ L ≤ 16384 := Nat.pow_le_pow_right (by omega) h2
  have hMb : N + 1 ≤ 16384 := by omega
  have hN1 : 0 < N := by have : 2 ^ 1 ≤ 2 ^ L := Nat.pow_le_pow_right (by omega) h1; omega
  have HR := Lib.hid (fun (W : World) (hb : Below w.heap.size w W) => read_ok L N l hl h1 h2 hN ma ca mc cc ms cs hlm hlc W (hm.below hb) (hc.below hb))
  have HN := Lib.hid hN
  generalize hr : (if allFrom (ndB L ms cs) 1 N = true then (0 : Int) else 8) = r
  have HRR := Lib.hid hr
  clear hr hN hp hm hc hlm hlc hl h1 h2
  go_enter Try.func38, Try.ntmps38
  go_wp2_with (first
    | (go_at_call 72; refine (HR.out _ (by (repeat (first | with_reducible (first | exact Below.refl _ _ | assumption | exact Hid.out (by assumption) | refine Below.alloc ?_ ?_ _ | refine Below.setCell ?_ ?_ _ | refine below_drewN ?_ _ | refine Below.drew ?_ | refine below_via (by assumption) ?_ ?_) | (first | (with_reducible assumption) | omega | (simp only [szW] <;> omega) | (simp <;> omega)))))).mono ?_; rintro e w1 ⟨g, rfl, ho, hb⟩
       have hg := (ho.lt g rfl)
       simp only [World.size_alloc] at hg hb ho
       have HO := Lib.hid ho
       have HB := Lib.hid (below_via hb ((Below.refl _ w).alloc (Nat.le_refl _) _) (by omega))
       clear ho hb))
  go_loopg [5] N (fun gk i wr => ∃ k : Nat, k = gk ∧ k ≤ N ∧ i = .int .i64 k ∧ w.heap.size ≤ wr.heap.size ∧ g < wr.heap.size ∧
      Hid (∃ B, w.heap.size ≤ B ∧ wr.ownsRow B 95 3 (.slice (some ⟨g, 0, none⟩) (N + 1) (N + 1)) (N + 1) (ndRow (tlF L ms) (tlF L cs) (pcF L) (N + 1))) ∧ Hid (Below w.heap.size w wr) ∧ Hid (allFrom (ndB L ms cs) (k + 1) (N - k) = true))
  case atStart => exact ⟨N, rfl, Nat.le_refl _, rfl, HB.out.size, hg.2, Lib.hid ⟨_, by omega, HO.out⟩, HB, Lib.hid (by rw [Nat.sub_self]; rfl)⟩
  case round =>
    obtain ⟨k, rfl, hkN, rfl, hz0, hgw, HO, HB, HA⟩ := hrel
    by_cases hlt : 0 < k
    · obtain ⟨B, hB, ho⟩ := HO.out
      obtain ⟨d0, d1⟩ := nd_cells ho (n := k) (by omega)
      have HF := Lib.hid (fun n (hn : n < N + 1) => nd_cells ho hn)
      have hb : ndB L ms cs k = (ownB (tlF L ms k) (tlF L cs k) && (decide (2 ^ L - 1 < 2 * k) || joinR (tlF L ms k) (tlF L cs k) (tlF L ms (2 * k)) (tlF L cs (2 * k)) (tlF L ms (2 * k + 1)) (tlF L cs (2 * k + 1)))) := rfl
      have HBB := Lib.hid hb
      clear hb ho
      obtain ⟨m, hm⟩ : ∃ m, tlF L ms k = m := ⟨_, rfl⟩
      obtain ⟨c, hc⟩ : ∃ c, tlF L cs k = c := ⟨_, rfl⟩
      rw [hm, hc] at HBB
      rw [hm] at d0
      rw [hc] at d1
      have HM := Lib.hid hm
      have HC := Lib.hid hc
      clear hm hc
      by_cases hown : ownB m c = true
      · have ho2 : 0 ≤ c ∧ c ≤ 65536 ∧ (c ≠ 0 ∨ m = 0) := by
          simp only [ownB, Bool.and_eq_true, Bool.or_eq_true, decide_eq_true_eq] at hown
          omega
        obtain ⟨ho3, ho4, ho5⟩ := ho2
        have HO5 := Lib.hid ho5
        clear ho5
        go_upto_region 8 with fail
        generalize hW : wr.alloc (.cells #[.int .i64 m, .int .i64 c] 92) = W
        have x0 : W.cell? ⟨wr.heap.size, 0, none⟩ = some (.int .i64 m) := by rw [← hW]; ((try simp (disch := first | omega | (simp only [szW] <;> omega) | fail) only [ceW]) <;> rfl)
        have x1 : W.cell? ⟨wr.heap.size, 1, none⟩ = some (.int .i64 c) := by rw [← hW]; ((try simp (disch := first | omega | (simp only [szW] <;> omega) | fail) only [ceW]) <;> rfl)
        have hWz : W.heap.size = wr.heap.size + 1 := by rw [← hW]; simp
        have HBW := Lib.hid (by rw [← hW]; exact (Below.refl _ _).alloc (Nat.le_refl _) _ : Below wr.heap.size wr W)
        clear hW d0 d1
        go_cut [45] from 19 to 99 (fun b wx => b = .bool false ∧ wx = W)
        case first =>
          by_cases h0 : c = 0
          · have hm0 : m = 0 := by have := HO5.out; omega
            have e1 : (c == 0) = true := by simpa using h0
            have e2 : (m != 0) = false := by simpa using hm0
            clear h0 hm0
            go_wp2
            go_meet
            case rel => exact ⟨by simp <;> omega, rfl⟩
          · have e1 : (c == 0) = false := by simpa using h0
            clear h0
            go_wp2
            go_meet
            case rel => exact ⟨by simp <;> omega, rfl⟩
        case rest =>
          obtain ⟨rfl, rfl⟩ := hcut
          have hk1 : ((k - 1 : Nat) : Int) = (k : Int) - 1 := by omega
          have HK1 := Lib.hid hk1
          clear hk1
          by_cases h2k : N < 2 * k
          · go_wp2
            go_roundg (k - 1)
            case measure => omega
            case rel =>
              obtain ⟨B, hB, ho⟩ := HO.out
              have hnd : ndB L ms cs k = true := by
                have h9 : 2 ^ L - 1 < 2 * k := by have := HN.out; omega
                rw [HBB.out, hown, decide_eq_true h9]
                rfl
              exact ⟨k - 1, rfl, by omega, by rw [HK1.out], by omega, by omega, Lib.hid ⟨B, hB, owns_below ho HBW.out⟩, Lib.hid (HB.out.trans (HBW.out.mono hz0)), Lib.hid (all_down HA.out hnd hlt hkN)⟩
          · obtain ⟨j, hj⟩ : ∃ j, 2 * k = j := ⟨_, rfl⟩
            have hjN : j + 1 ≤ N := by
              have h8 := HN.out
              have h9 : 2 ^ L % 2 = 0 := by
                have : L ≠ 0 := fun e => by rw [e] at h8; omega
                obtain ⟨q, rfl⟩ : ∃ q, L = q + 1 := ⟨L - 1, by omega⟩
                rw [Nat.pow_succ]; omega
              omega
            obtain ⟨f0, f1⟩ := HF.out j (by omega)
            obtain ⟨f2, f3⟩ := HF.out (j + 1) (by omega)
            have g0 := (HBW.out.cell (p := ⟨g, j * 3, none⟩) hgw).trans f0
            have g1 := (HBW.out.cell (p := ⟨g, j * 3 + 1, none⟩) hgw).trans f1
            have g2 := (HBW.out.cell (p := ⟨g, (j + 1) * 3, none⟩) hgw).trans f2
            have g3 := (HBW.out.cell (p := ⟨g, (j + 1) * 3 + 1, none⟩) hgw).trans f3
            have ha := ndB_own (allFrom_iff.1 HA.out j (by omega) (by omega))
            have hb := ndB_own (allFrom_iff.1 HA.out (j + 1) (by omega) (by omega))
            have hbb := HBB.out
            rw [hj] at hbb
            have hnl : decide (2 ^ L - 1 < j) = false := by have := HN.out; simp; omega
            rw [hown, hnl, Bool.true_and, Bool.false_or] at hbb
            generalize tlF L ms j = am at g0 ha hbb
            generalize tlF L cs j = ac at g1 ha hbb
            generalize tlF L ms (j + 1) = bm at g2 hb hbb
            generalize tlF L cs (j + 1) = bc at g3 hb hbb
            rw [← joinP_eq ha hb] at hbb
            have HBJ := Lib.hid hbb
            have HOA := Lib.hid ha
            have HOB := Lib.hid hb
            have w1 : IntKind.i64.wrap (2 * (k : Int)) = (j : Int) := by rw [show (2 : Int) * (k : Int) = (j : Int) by omega]; exact IntWalk.i64_in _ (by omega)
            have w2 : IntKind.i64.wrap ((j : Int) + 1) = (j : Int) + 1 := IntWalk.i64_in _ (by omega)
            have w3 : ((j : Int) + 1).toNat = j + 1 := by omega
            have HJ := Lib.hid hj
            clear hbb ha hb hnl f0 f1 f2 f3
            go_upto_region 11 with fail
            clear hj
            go_cut [7, 8] from 19 to 99 (fun p q wx => ∃ b7 b8 : Nat, p = .pointer (some ⟨b7, 0, none⟩) ∧ q = .pointer (some ⟨b8, 0, none⟩) ∧ wx.cell? ⟨b7, 0, none⟩ = some (.int .i64 am) ∧ wx.cell? ⟨b7, 1, none⟩ = some (.int .i64 ac) ∧ wx.cell? ⟨b8, 0, none⟩ = some (.int .i64 bm) ∧ wx.cell? ⟨b8, 1, none⟩ = some (.int .i64 bc) ∧
              wx.cell? ⟨wr.heap.size, 0, none⟩ = some (.int .i64 m) ∧ wx.cell? ⟨wr.heap.size, 1, none⟩ = some (.int .i64 c) ∧ b7 < wx.heap.size ∧ b8 < wx.heap.size ∧ wr.heap.size < wx.heap.size ∧ Hid (Below wr.heap.size wr wx))
            case first =>
              have hgA : g < wc.heap.size := by omega
              have hgB : g < wc.heap.size + 1 := by omega
              have p0 : (wc.alloc (.cells #[.int .i64 0, .int .i64 0] 92)).cell? ⟨g, j * 3, none⟩ = some (.int .i64 am) := by (first | (with_reducible assumption) | ((try simp (disch := first | omega | (simp only [szW] <;> omega) | fail) only [ceW]) <;> first | (with_reducible assumption) | rfl))
              have p1 : (wc.alloc (.cells #[.int .i64 0, .int .i64 0] 92)).cell? ⟨g, j * 3 + 1, none⟩ = some (.int .i64 ac) := by (first | (with_reducible assumption) | ((try simp (disch := first | omega | (simp only [szW] <;> omega) | fail) only [ceW]) <;> first | (with_reducible assumption) | rfl))
              have p2 : (wc.alloc (.cells #[.int .i64 0, .int .i64 0] 92)).cell? ⟨g, (j + 1) * 3, none⟩ = some (.int .i64 bm) := by (first | (with_reducible assumption) | ((try simp (disch := first | omega | (simp only [szW] <;> omega) | fail) only [ceW]) <;> first | (with_reducible assumption) | rfl))
              have p3 : (wc.alloc (.cells #[.int .i64 0, .int .i64 0] 92)).cell? ⟨g, (j + 1) * 3 + 1, none⟩ = some (.int .i64 bc) := by (first | (with_reducible assumption) | ((try simp (disch := first | omega | (simp only [szW] <;> omega) | fail) only [ceW]) <;> first | (with_reducible assumption) | rfl))
              have q0 : ((wc.alloc (.cells #[.int .i64 0, .int .i64 0] 92)).alloc (.cells #[.int .i64 0, .int .i64 0] 92)).cell? ⟨g, j * 3, none⟩ = some (.int .i64 am) := by (first | (with_reducible assumption) | ((try simp (disch := first | omega | (simp only [szW] <;> omega) | fail) only [ceW]) <;> first | (with_reducible assumption) | rfl))
              have q1 : ((wc.alloc (.cells #[.int .i64 0, .int .i64 0] 92)).alloc (.cells #[.int .i64 0, .int .i64 0] 92)).cell? ⟨g, j * 3 + 1, none⟩ = some (.int .i64 ac) := by (first | (with_reducible assumption) | ((try simp (disch := first | omega | (simp only [szW] <;> omega) | fail) only [ceW]) <;> first | (with_reducible assumption) | rfl))
              have q2 : ((wc.alloc (.cells #[.int .i64 0, .int .i64 0] 92)).alloc (.cells #[.int .i64 0, .int .i64 0] 92)).cell? ⟨g, (j + 1) * 3, none⟩ = some (.int .i64 bm) := by (first | (with_reducible assumption) | ((try simp (disch := first | omega | (simp only [szW] <;> omega) | fail) only [ceW]) <;> first | (with_reducible assumption) | rfl))
              have q3 : ((wc.alloc (.cells #[.int .i64 0, .int .i64 0] 92)).alloc (.cells #[.int .i64 0, .int .i64 0] 92)).cell? ⟨g, (j + 1) * 3 + 1, none⟩ = some (.int .i64 bc) := by (first | (with_reducible assumption) | ((try simp (disch := first | omega | (simp only [szW] <;> omega) | fail) only [ceW]) <;> first | (with_reducible assumption) | rfl))
              have r2 : ((wc.alloc (.cells #[.int .i64 0, .int .i64 0] 92)).alloc (.cells #[.int .i64 am, .int .i64 ac] 92)).cell? ⟨g, (j + 1) * 3, none⟩ = some (.int .i64 bm) := by (first | (with_reducible assumption) | ((try simp (disch := first | omega | (simp only [szW] <;> omega) | fail) only [ceW]) <;> first | (with_reducible assumption) | rfl))
              have r3 : ((wc.alloc (.cells #[.int .i64 0, .int .i64 0] 92)).alloc (.cells #[.int .i64 am, .int .i64 ac] 92)).cell? ⟨g, (j + 1) * 3 + 1, none⟩ = some (.int .i64 bc) := by (first | (with_reducible assumption) | ((try simp (disch := first | omega | (simp only [szW] <;> omega) | fail) only [ceW]) <;> first | (with_reducible assumption) | rfl))
              have s2 : ((wc.alloc (.cells #[.int .i64 am, .int .i64 ac] 92)).alloc (.cells #[.int .i64 0, .int .i64 0] 92)).cell? ⟨g, (j + 1) * 3, none⟩ = some (.int .i64 bm) := by (first | (with_reducible assumption) | ((try simp (disch := first | omega | (simp only [szW] <;> omega) | fail) only [ceW]) <;> first | (with_reducible assumption) | rfl))
              have s3 : ((wc.alloc (.cells #[.int .i64 am, .int .i64 ac] 92)).alloc (.cells #[.int .i64 0, .int .i64 0] 92)).cell? ⟨g, (j + 1) * 3 + 1, none⟩ = some (.int .i64 bc) := by (first | (with_reducible assumption) | ((try simp (disch := first | omega | (simp only [szW] <;> omega) | fail) only [ceW]) <;> first | (with_reducible assumption) | rfl))
              have hgC : g ≤ wc.heap.size := by omega
              have hgD : g ≠ wc.heap.size := by omega
              have hgE : g ≠ wc.heap.size + 1 := by omega
              go_region
              all_goals (try go_wp2)
              all_goals go_meet
              case rel => exact ⟨wr.heap.size + 1, wr.heap.size + 1 + 1, rfl, rfl, by (first | (with_reducible assumption) | ((try simp (disch := first | omega | (simp only [szW] <;> omega) | fail) only [ceW]) <;> first | (with_reducible assumption) | rfl)), by (first | (with_reducible assumption) | ((try simp (disch := first | omega | (simp only [szW] <;> omega) | fail) only [ceW]) <;> first | (with_reducible assumption) | rfl)), by (first | (with_reducible assumption) | ((try simp (disch := first | omega | (simp only [szW] <;> omega) | fail) only [ceW]) <;> first | (with_reducible assumption) | rfl)), by (first | (with_reducible assumption) | ((try simp (disch := first | omega | (simp only [szW] <;> omega) | fail) only [ceW]) <;> first | (with_reducible assumption) | rfl)), by (first | (with_reducible assumption) | ((try simp (disch := first | omega | (simp only [szW] <;> omega) | fail) only [ceW]) <;> first | (with_reducible assumption) | rfl)), by (first | (with_reducible assumption) | ((try simp (disch := first | omega | (simp only [szW] <;> omega) | fail) only [ceW]) <;> first | (with_reducible assumption) | rfl)), by (first | (with_reducible assumption) | omega | (simp only [szW] <;> omega) | (simp <;> omega)), by (first | (with_reducible assumption) | omega | (simp only [szW] <;> omega) | (simp <;> omega)), by (first | (with_reducible assumption) | omega | (simp only [szW] <;> omega) | (simp <;> omega)), Lib.hid (by have := HBW.out; (repeat (first | with_reducible (first | exact Below.refl _ _ | assumption | exact Hid.out (by assumption) | refine Below.alloc ?_ ?_ _ | refine Below.setCell ?_ ?_ _ | refine below_drewN ?_ _ | refine Below.drew ?_ | refine below_via (by assumption) ?_ ?_) | (first | (with_reducible assumption) | omega | (simp only [szW] <;> omega) | (simp <;> omega)))))⟩
              case rel => exact ⟨wr.heap.size + 1 + 1, wr.heap.size + 1, rfl, rfl, by (first | (with_reducible assumption) | ((try simp (disch := first | omega | (simp only [szW] <;> omega) | fail) only [ceW]) <;> first | (with_reducible assumption) | rfl)), by (first | (with_reducible assumption) | ((try simp (disch := first | omega | (simp only [szW] <;> omega) | fail) only [ceW]) <;> first | (with_reducible assumption) | rfl)), by (first | (with_reducible assumption) | ((try simp (disch := first | omega | (simp only [szW] <;> omega) | fail) only [ceW]) <;> first | (with_reducible assumption) | rfl)), by (first | (with_reducible assumption) | ((try simp (disch := first | omega | (simp only [szW] <;> omega) | fail) only [ceW]) <;> first | (with_reducible assumption) | rfl)), by (first | (with_reducible assumption) | ((try simp (disch := first | omega | (simp only [szW] <;> omega) | fail) only [ceW]) <;> first | (with_reducible assumption) | rfl)), by (first | (with_reducible assumption) | ((try simp (disch := first | omega | (simp only [szW] <;> omega) | fail) only [ceW]) <;> first | (with_reducible assumption) | rfl)), by (first | (with_reducible assumption) | omega | (simp only [szW] <;> omega) | (simp <;> omega)), by (first | (with_reducible assumption) | omega | (simp only [szW] <;> omega) | (simp <;> omega)), by (first | (with_reducible assumption) | omega | (simp only [szW] <;> omega) | (simp <;> omega)), Lib.hid (by have := HBW.out; (repeat (first | with_reducible (first | exact Below.refl _ _ | assumption | exact Hid.out (by assumption) | refine Below.alloc ?_ ?_ _ | refine Below.setCell ?_ ?_ _ | refine below_drewN ?_ _ | refine Below.drew ?_ | refine below_via (by assumption) ?_ ?_) | (first | (with_reducible assumption) | omega | (simp only [szW] <;> omega) | (simp <;> omega)))))⟩
            case rest =>
              obtain ⟨b7, b8, rfl, rfl, y0, y1, z0, z1, x0, x1, l7, l8, l6, HBX⟩ := hcut
              go_upto_region 12 with fail
              obtain ⟨z, hz⟩ : ∃ z, joinP m c am ac bm bc = z := ⟨_, rfl⟩
              rw [hz] at HBJ
              obtain ⟨x, hx⟩ : ∃ x, abM am bm bc = x := ⟨_, rfl⟩
              obtain ⟨y, hy⟩ : ∃ y, abC ac bc = y := ⟨_, rfl⟩
              have hoa := HOA.out
              have hob := HOB.out
              simp only [ownB, Bool.and_eq_true, Bool.or_eq_true, decide_eq_true_eq] at hoa hob
              obtain ⟨⟨q1, q2⟩, -⟩ := hoa
              obtain ⟨⟨q3, q4⟩, -⟩ := hob
              have AB := Lib.hid (fun W => above_ok am ac bm bc q1 q2 q3 q4 W)
              rw [hx, hy] at AB
              have HZ := Lib.hid hz
              have HX := Lib.hid hx
              have HY := Lib.hid hy
              have k0 := cell_regrown x0
              have k1 := cell_regrown x1
              have k2 := cell_regrown y0
              have k3 := cell_regrown y1
              have k4 := cell_regrown z0
              have k5 := cell_regrown z1
              have CA := Lib.hid (fun d os => Calls.regrown_of (w := wc) (d := d) (os := os) (AB.out (Sort.grow (redrawn wc d) os)))
              clear hz hx hy
              go_cut [99] from 19 to 99 (fun b wx => b = .bool (!z) ∧ Hid (Below wr.heap.size wr wx))
              case first =>
                by_cases hA : c < ac
                · have eA : decide (c < ac) = true := decide_eq_true hA
                  have hzv : z = false := by have := fun h => joinP_iff.1 (HZ.out.trans h); cases z with | true => exact absurd (this rfl) (by rw [HX.out, HY.out]; omega) | false => rfl
                  refine wp_region_quiet_below (by kernel_rfl) (by kernel_rfl) ?_
                  repeat (go_big_quiet_step (exact CA.out _ _))
                  refine wpQuiet_nil ?_
                  intro _ hw'
                  obtain ⟨⟨dq, osq⟩, hw''⟩ := hw'
                  subst hw''
                  try go_wp2
                  go_meet
                  case rel => exact ⟨by rw [hzv]; simp <;> omega, Lib.hid (HBX.out.trans ((below_regrown wc dq osq).mono (by omega)))⟩
                · have eA : decide (c < ac) = false := decide_eq_false hA
                  by_cases hB : c < bc
                  · have eB : decide (c < bc) = true := decide_eq_true hB
                    have hzv : z = false := by have := fun h => joinP_iff.1 (HZ.out.trans h); cases z with | true => exact absurd (this rfl) (by rw [HX.out, HY.out]; omega) | false => rfl
                    refine wp_region_quiet_below (by kernel_rfl) (by kernel_rfl) ?_
                    repeat (go_big_quiet_step (exact CA.out _ _))
                    refine wpQuiet_nil ?_
                    intro _ hw'
                    obtain ⟨⟨dq, osq⟩, hw''⟩ := hw'
                    subst hw''
                    try go_wp2
                    go_meet
                    case rel => exact ⟨by rw [hzv]; simp <;> omega, Lib.hid (HBX.out.trans ((below_regrown wc dq osq).mono (by omega)))⟩
                  · have eB : decide (c < bc) = false := decide_eq_false hB
                    by_cases hC : m = x
                    · have HC1 := Lib.hid hC
                      have eC : (m = x) = True := eq_true hC
                      clear hC
                      by_cases hD : c = y
                      · have HD1 := Lib.hid hD
                        have eD : (c = y) = True := eq_true hD
                        clear hD
                        by_cases h1 : 0 < ac
                        · have e1 : decide (0 < ac) = true := decide_eq_true h1
                          by_cases h2 : 0 < bc
                          · have e2 : decide (0 < bc) = true := decide_eq_true h2
                            by_cases h3 : bm ≤ am
                            · have e3 : decide (bm ≤ am) = true := decide_eq_true h3
                              have hzv : z = false := by have := fun h => joinP_iff.1 (HZ.out.trans h); cases z with | true => exact absurd (this rfl) (by rw [HX.out, HY.out]; omega) | false => rfl
                              refine wp_region_quiet_below (by kernel_rfl) (by kernel_rfl) ?_
                              repeat (go_big_quiet_step (exact CA.out _ _))
                              refine wpQuiet_nil ?_
                              intro _ hw'
                              obtain ⟨⟨dq, osq⟩, hw''⟩ := hw'
                              subst hw''
                              try go_wp2
                              go_meet
                              case rel => exact ⟨by rw [hzv]; simp <;> omega, Lib.hid (HBX.out.trans ((below_regrown wc dq osq).mono (by omega)))⟩
                            · have e3 : decide (bm ≤ am) = false := decide_eq_false h3
                              have hzv : z = true := by rw [← HZ.out]; exact joinP_iff.2 (by rw [HX.out, HY.out]; have := HC1.out; have := HD1.out; omega)
                              refine wp_region_quiet_below (by kernel_rfl) (by kernel_rfl) ?_
                              repeat (go_big_quiet_step (exact CA.out _ _))
                              refine wpQuiet_nil ?_
                              intro _ hw'
                              obtain ⟨⟨dq, osq⟩, hw''⟩ := hw'
                              subst hw''
                              try go_wp2
                              go_meet
                              case rel => exact ⟨by rw [hzv]; simp <;> omega, Lib.hid (HBX.out.trans ((below_regrown wc dq osq).mono (by omega)))⟩
                          · have e2 : decide (0 < bc) = false := decide_eq_false h2
                            have hzv : z = true := by rw [← HZ.out]; exact joinP_iff.2 (by rw [HX.out, HY.out]; have := HC1.out; have := HD1.out; omega)
                            refine wp_region_quiet_below (by kernel_rfl) (by kernel_rfl) ?_
                            repeat (go_big_quiet_step (exact CA.out _ _))
                            refine wpQuiet_nil ?_
                            intro _ hw'
                            obtain ⟨⟨dq, osq⟩, hw''⟩ := hw'
                            subst hw''
                            try go_wp2
                            go_meet
                            case rel => exact ⟨by rw [hzv]; simp <;> omega, Lib.hid (HBX.out.trans ((below_regrown wc dq osq).mono (by omega)))⟩
                        · have e1 : decide (0 < ac) = false := decide_eq_false h1
                          have hzv : z = true := by rw [← HZ.out]; exact joinP_iff.2 (by rw [HX.out, HY.out]; have := HC1.out; have := HD1.out; omega)
                          refine wp_region_quiet_below (by kernel_rfl) (by kernel_rfl) ?_
                          repeat (go_big_quiet_step (exact CA.out _ _))
                          refine wpQuiet_nil ?_
                          intro _ hw'
                          obtain ⟨⟨dq, osq⟩, hw''⟩ := hw'
                          subst hw''
                          try go_wp2
                          go_meet
                          case rel => exact ⟨by rw [hzv]; simp <;> omega, Lib.hid (HBX.out.trans ((below_regrown wc dq osq).mono (by omega)))⟩
                      · have hzv : z = false := by have := fun h => joinP_iff.1 (HZ.out.trans h); cases z with | true => exact absurd (this rfl) (by rw [HX.out, HY.out]; omega) | false => rfl
                        refine wp_region_quiet_below (by kernel_rfl) (by kernel_rfl) ?_
                        repeat (go_big_quiet_step (exact CA.out _ _))
                        refine wpQuiet_nil ?_
                        intro _ hw'
                        obtain ⟨⟨dq, osq⟩, hw''⟩ := hw'
                        subst hw''
                        try go_wp2
                        go_meet
                        case rel => exact ⟨by rw [hzv]; simp <;> omega, Lib.hid (HBX.out.trans ((below_regrown wc dq osq).mono (by omega)))⟩
                    · have hzv : z = false := by have := fun h => joinP_iff.1 (HZ.out.trans h); cases z with | true => exact absurd (this rfl) (by rw [HX.out, HY.out]; omega) | false => rfl
                      refine wp_region_quiet_below (by kernel_rfl) (by kernel_rfl) ?_
                      repeat (go_big_quiet_step (exact CA.out _ _))
                      refine wpQuiet_nil ?_
                      intro _ hw'
                      obtain ⟨⟨dq, osq⟩, hw''⟩ := hw'
                      subst hw''
                      try go_wp2
                      go_meet
                      case rel => exact ⟨by rw [hzv]; simp <;> omega, Lib.hid (HBX.out.trans ((below_regrown wc dq osq).mono (by omega)))⟩
              case rest =>
                obtain ⟨rfl, HBY⟩ := hcut
                have hWz := HBY.out.size
                cases z with
                | true =>
                  go_wp2
                  go_roundg (k - 1)
                  case measure => omega
                  case rel =>
                    obtain ⟨B, hB, ho⟩ := HO.out
                    exact ⟨k - 1, rfl, by omega, by rw [HK1.out], by omega, by omega, Lib.hid ⟨B, hB, owns_below ho HBY.out⟩, Lib.hid (HB.out.trans (HBY.out.mono hz0)), Lib.hid (all_down HA.out HBJ.out hlt hkN)⟩
                | false =>
                  have he : (if allFrom (ndB L ms cs) 1 N = true then (0 : Int) else 8) = 8 := by
                    rw [allFrom_not (m := k) (by omega) (by omega) HBJ.out]
                    rfl
                  have he := HRR.out.symm.trans he
                  subst he
                  go_wp2
                  go_ret
                  exact ⟨rfl, HB.out.trans (HBY.out.mono hz0)⟩
      · have hs : c < 0 ∨ 65536 < c ∨ (0 ≤ c ∧ c ≤ 65536 ∧ c = 0 ∧ m ≠ 0) := by
          simp only [ownB, Bool.and_eq_true, Bool.or_eq_true, decide_eq_true_eq] at hown
          omega
        have he : (if allFrom (ndB L ms cs) 1 N = true then (0 : Int) else 8) = 8 := by
          rw [allFrom_not (m := k) (by omega) (by omega) (by rw [HBB.out]; simp [hown])]
          rfl
        have he := HRR.out.symm.trans he
        subst he
        clear hown
        rcases hs with hs | hs | ⟨hs1, hs2, hs3, hs4⟩
        · go_wp2
          go_ret
          exact ⟨rfl, by have := HB.out; (repeat (first | with_reducible (first | exact Below.refl _ _ | assumption | exact Hid.out (by assumption) | refine Below.alloc ?_ ?_ _ | refine Below.setCell ?_ ?_ _ | refine below_drewN ?_ _ | refine Below.drew ?_ | refine below_via (by assumption) ?_ ?_) | (first | (with_reducible assumption) | omega | (simp only [szW] <;> omega) | (simp <;> omega))))⟩
        · go_wp2
          go_ret
          exact ⟨rfl, by have := HB.out; (repeat (first | with_reducible (first | exact Below.refl _ _ | assumption | exact Hid.out (by assumption) | refine Below.alloc ?_ ?_ _ | refine Below.setCell ?_ ?_ _ | refine below_drewN ?_ _ | refine Below.drew ?_ | refine below_via (by assumption) ?_ ?_) | (first | (with_reducible assumption) | omega | (simp only [szW] <;> omega) | (simp <;> omega))))⟩
        · have e1 : (c == 0) = true := by simpa using hs3
          have e2 : (m != 0) = true := by simpa using hs4
          clear hs3 hs4
          go_wp2
          go_ret
          exact ⟨rfl, by have := HB.out; (repeat (first | with_reducible (first | exact Below.refl _ _ | assumption | exact Hid.out (by assumption) | refine Below.alloc ?_ ?_ _ | refine Below.setCell ?_ ?_ _ | refine below_drewN ?_ _ | refine Below.drew ?_ | refine below_via (by assumption) ?_ ?_) | (first | (with_reducible assumption) | omega | (simp only [szW] <;> omega) | (simp <;> omega))))⟩
    · have hk0 : k = 0 := by omega
      have he : (if allFrom (ndB L ms cs) 1 N = true then (0 : Int) else 8) = 0 := by
        have := HA.out
        rw [hk0] at this
        exact if_pos this
      have he := HRR.out.symm.trans he
      subst he
      go_wp2
      go_ret
      exact ⟨rfl, HB.out⟩
end

section
open Go.RowKit

theorem Check_ix (l : Int) (ma ca : Option Addr) (mc cc : Nat) (ms cs : List Int) (w : World) (hm : IsRow .i64 w ma ms) (hc : IsRow .i64 w ca cs) :
    Calls Try.prog 38 #[ixV l ma ms.length mc ca cs.length cc] w (Ans w (.int .i64 (ixE l ms cs))) := by
  by_cases h : ixFit l ms cs
  · have e : ixE l ms cs = if allFrom (ndB l.toNat ms cs) 1 (2 ^ l.toNat - 1) = true then 0 else 8 := by
      unfold ixE ixMay
      rw [decide_eq_true h, Bool.true_and]
    obtain ⟨h1, h2, h3, h4⟩ := h
    rw [e, h3, h4]
    have hp := Nat.two_pow_pos l.toNat
    exact Check_fit l.toNat (2 ^ l.toNat - 1) l (by omega) (by omega) (by omega) (by omega) ma ca mc cc ms cs h3 h4 w hm hc
  · have e : ixE l ms cs = 8 := by
      unfold ixE ixMay
      rw [decide_eq_false h, Bool.false_and]
      rfl
    rw [e]
    exact Check_bad l ma ca mc cc ms cs h w
end
end Go.Proofs.Ytbmibaafkgleeaa
