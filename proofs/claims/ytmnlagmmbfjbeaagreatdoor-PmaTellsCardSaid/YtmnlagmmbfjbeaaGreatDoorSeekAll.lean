/- Merged: Seek, Ref10. -/
import Derived.Test.YtmnlagmmbfjbeaaGreatDoorOfMy
namespace Go.Proofs.YtmnlagmmbfjbeaaGreatDoor
set_option linter.unusedVariables false
set_option linter.unusedSimpArgs false
section
open Go.RowKit

/-- a pair's key is above that ahead of it -/
def risAt (l : List (Int × Int)) (i : Nat) : Bool := i == 0 || decide ((l.getD (i - 1) (0, 0)).1 < (l.getD i (0, 0)).1)
/-- do keys rise? -/
def risB (l : List (Int × Int)) : Bool := (List.range l.length).all (risAt l)
def seekE (c : SlC) : Int := if slMay c = true then (if risB (prs c 0 c.ks.length) = true then 0 else 130) else 8
theorem pr_get {l : List (Int × Int)} {W : World} {a : Option Addr} (h : IsRow .i64 W a (prI l)) {i : Nat} (hi : i < l.length) :
    ∃ b off, a = some ⟨b, off, none⟩ ∧ W.cell? ⟨b, off + i * 2, none⟩ = some (.int .i64 (l.getD i (0, 0)).1) ∧ W.cell? ⟨b, off + i * 2 + 1, none⟩ = some (.int .i64 (l.getD i (0, 0)).2) ∧ b < W.heap.size := by
  obtain ⟨g1, g2⟩ := prI_get hi
  obtain ⟨b, off, x, y, e, hx, hy, c1, c2, hb⟩ := h.get2 (i := i) (by rw [prI_length]; omega)
  rw [← hx.out, g1] at c1
  rw [← hy.out, g2] at c2
  exact ⟨b, off, e, c1, c2, hb⟩

set_option maxRecDepth 100000 in
set_option maxHeartbeats 2000000 in
theorem seekCheck_ok (c : SlC) (a : SlA) (hl : c.ws.length ≤ 1000000000000) (hl2 : c.ks.length ≤ 1000000000000) (w : World) (hin : SlIn w c a) :
    Calls Tryz.prog 33 #[slV c a] w (AnsB w (.int .i64 (seekE c))) := by
  have PR := Lib.hid (fun W (hb : Below w.heap.size w W) => Pairs_ok c a hl hl2 0 c.ks.length W (hin.below hb))
  by_cases hm : slMay c = true
  · have he : partE c 0 c.ks.length = 0 := by rw [partE, if_pos hm, if_pos (by omega)]
    have hr : prsR c 0 c.ks.length = prs c 0 c.ks.length := if_pos he
    have hv : seekE c = if risB (prs c 0 c.ks.length) = true then 0 else 130 := if_pos hm
    rw [he, hr] at PR
    have hlen : (prs c 0 c.ks.length).length ≤ 65536 := by
      obtain ⟨S, M, -, -, -, hnk, -, -, -, hSM, -⟩ := slHead_facts (slMay_head hm)
      rw [prs_length]
      have := cntW_le c.ws 0 c.ks.length
      omega
    obtain ⟨R, hR⟩ : ∃ R, seekE c = R := ⟨_, rfl⟩
    have HR := Lib.hid (hR.symm.trans hv)
    rw [hR]
    generalize prs c 0 c.ks.length = L at *
    obtain ⟨seg, ws, ks, vs, cs, laid⟩ := c
    obtain ⟨wa, ka, va, ca, wc, kc, vc, cc⟩ := a
    dsimp only [slV] at *
    clear hin hm he hr hv hR hl hl2
    go_enter Tryz.func33, Tryz.ntmps33
    go_wp2_with fail
    refine (PR.out _ ((Below.refl _ _).alloc (Nat.le_refl _) _)).mono ?_
    rintro e w1 ⟨vl, rfl, hol, hb1⟩
    have hz_w1 := hb1.size
    try simp only [World.size_alloc, World.size_setCell] at hz_w1
    have c_t0 : w1.cell? ⟨w.heap.size, 0, none⟩ = some (.int .i64 seg) := (hb1.cell (p := ⟨w.heap.size, 0, none⟩) (by (first | (with_reducible assumption) | omega | (simp only [szW] <;> omega) | (simp <;> omega)))).trans (by (first | (with_reducible assumption) | ((try simp (disch := first | omega | (simp only [szW] <;> omega) | fail) only [ceW]) <;> first | (with_reducible assumption) | rfl)))
    have c_t1 : w1.cell? ⟨w.heap.size, 1, none⟩ = some (.slice wa ws.length wc) := (hb1.cell (p := ⟨w.heap.size, 1, none⟩) (by (first | (with_reducible assumption) | omega | (simp only [szW] <;> omega) | (simp <;> omega)))).trans (by (first | (with_reducible assumption) | ((try simp (disch := first | omega | (simp only [szW] <;> omega) | fail) only [ceW]) <;> first | (with_reducible assumption) | rfl)))
    have c_t2 : w1.cell? ⟨w.heap.size, 2, none⟩ = some (.slice ka ks.length kc) := (hb1.cell (p := ⟨w.heap.size, 2, none⟩) (by (first | (with_reducible assumption) | omega | (simp only [szW] <;> omega) | (simp <;> omega)))).trans (by (first | (with_reducible assumption) | ((try simp (disch := first | omega | (simp only [szW] <;> omega) | fail) only [ceW]) <;> first | (with_reducible assumption) | rfl)))
    have c_t3 : w1.cell? ⟨w.heap.size, 3, none⟩ = some (.slice va vs.length vc) := (hb1.cell (p := ⟨w.heap.size, 3, none⟩) (by (first | (with_reducible assumption) | omega | (simp only [szW] <;> omega) | (simp <;> omega)))).trans (by (first | (with_reducible assumption) | ((try simp (disch := first | omega | (simp only [szW] <;> omega) | fail) only [ceW]) <;> first | (with_reducible assumption) | rfl)))
    have c_t4 : w1.cell? ⟨w.heap.size, 4, none⟩ = some (.slice ca cs.length cc) := (hb1.cell (p := ⟨w.heap.size, 4, none⟩) (by (first | (with_reducible assumption) | omega | (simp only [szW] <;> omega) | (simp <;> omega)))).trans (by (first | (with_reducible assumption) | ((try simp (disch := first | omega | (simp only [szW] <;> omega) | fail) only [ceW]) <;> first | (with_reducible assumption) | rfl)))
    have c_t5 : w1.cell? ⟨w.heap.size, 5, none⟩ = some (.int .u64 laid) := (hb1.cell (p := ⟨w.heap.size, 5, none⟩) (by (first | (with_reducible assumption) | omega | (simp only [szW] <;> omega) | (simp <;> omega)))).trans (by (first | (with_reducible assumption) | ((try simp (disch := first | omega | (simp only [szW] <;> omega) | fail) only [ceW]) <;> first | (with_reducible assumption) | rfl)))
    have z_t : w.heap.size < w1.heap.size := by omega
    have hB1 : Below w.heap.size w w1 := by (repeat (first | with_reducible (first | exact Below.refl _ _ | assumption | exact Hid.out (by assumption) | refine Below.alloc ?_ ?_ _ | refine Below.setCell ?_ ?_ _ | refine below_drewN ?_ _ | refine Below.drew ?_ | refine below_via (by assumption) ?_ ?_) | (first | (with_reducible assumption) | omega | (simp only [szW] <;> omega) | (simp <;> omega))))
    obtain ⟨la, lc, rfl, hil, -, -, -, -⟩ := row_of_owns hol
    have HRL := Lib.hid hil
    have HB1 := Lib.hid hB1
    obtain ⟨m, hmm⟩ : ∃ m, L.length = m := ⟨_, rfl⟩
    rw [hmm] at hlen ⊢
    have HML := Lib.hid hmm
    clear hb1 hB1 hol hil hmm
    go_wp2
    go_loopg [20] m (fun gk iv wr => ∃ k : Nat, k + gk = m ∧ iv = .int .i64 k ∧ Hid (Below w.heap.size w wr) ∧ Hid (Below w1.heap.size w1 wr) ∧ Hid (∀ j, j < k → risAt L j = true))
    case atStart => exact ⟨0, by omega, rfl, HB1, Lib.hid (Below.refl _ _), Lib.hid (fun j h => by omega)⟩
    case round =>
      obtain ⟨k, hk, rfl, HB, HBL, HA⟩ := hrel
      have hz := HB.out.size
      by_cases hlt : k < m
      · obtain ⟨bl, ol, rfl, c0, c1, zl⟩ := pr_get (HRL.out.below HBL.out) (i := k) (by rw [HML.out]; exact hlt)
        have hra : risAt L k = (k == 0 || decide ((L.getD (k - 1) (0, 0)).1 < (L.getD k (0, 0)).1)) := rfl
        have HK2 := Lib.hid hk
        have hz1 := HBL.out.size
        by_cases hk0 : k = 0
        · subst hk0
          generalize (L.getD 0 (0, 0)).1 = x at *
          generalize (L.getD 0 (0, 0)).2 = y at *
          have HRA := Lib.hid hra
          have g0 : decide ((0 : Int) > 0) = false := rfl
          simp only [Nat.zero_mul, Nat.add_zero] at c0 c1
          clear hra
          go_wp2
          have p0 : (wr.alloc (.cells #[.int .i64 x, .int .i64 y] 79)).cell? ⟨wr.heap.size, 0, none⟩ = some (.int .i64 x) := by ((try simp (disch := first | omega | (simp only [szW] <;> omega) | fail) only [ceW]) <;> rfl)
          go_quiet (fail)
          go_wp2
          go_roundg (gk - 1)
          case measure => have := HK2.out; omega
          case rel =>
            refine ⟨1, by have := HK2.out; omega, rfl, Lib.hid (below_drewN (HB.out.alloc hz _) _), Lib.hid (below_drewN (HBL.out.alloc hz1 _) _), Lib.hid (fun j hj => ?_)⟩
            rw [show j = 0 by omega]
            rfl
        · obtain ⟨q, rfl⟩ : ∃ q, k = q + 1 := ⟨k - 1, by omega⟩
          obtain ⟨bl', ol', hbe, e0, e1, -⟩ := pr_get (HRL.out.below HBL.out) (i := q) (by rw [HML.out]; omega)
          cases hbe
          rw [Nat.add_sub_cancel] at hra
          generalize (L.getD (q + 1) (0, 0)).1 = x at *
          generalize (L.getD (q + 1) (0, 0)).2 = y at *
          generalize (L.getD q (0, 0)).1 = z at *
          have g0 : decide ((q : Int) + 1 > 0) = true := by simp <;> omega
          have hqI : ((q + 1 : Nat) : Int) = (q : Int) + 1 := by omega
          by_cases hxz : z < x
          · have HRA := Lib.hid hra
            have g1 : decide (x ≤ z) = false := by simp; omega
            clear hra
            go_wp2
            have p0 : (wr.alloc (.cells #[.int .i64 x, .int .i64 y] 79)).cell? ⟨wr.heap.size, 0, none⟩ = some (.int .i64 x) := by ((try simp (disch := first | omega | (simp only [szW] <;> omega) | fail) only [ceW]) <;> rfl)
            replace e0 := (((Below.refl _ wr).alloc (Nat.le_refl _) (.cells #[.int .i64 x, .int .i64 y] 79)).cell (World.block_lt_of_cell? _ _ e0)).trans e0
            go_quiet (fail)
            go_wp2
            go_roundg (gk - 1)
            case measure => have := HK2.out; omega
            case rel =>
              refine ⟨q + 2, by have := HK2.out; omega, by go_num, Lib.hid (below_drewN (HB.out.alloc hz _) _), Lib.hid (below_drewN (HBL.out.alloc hz1 _) _), Lib.hid (fun j hj => ?_)⟩
              by_cases e : j = q + 1
              · rw [e, HRA.out]; simp [hxz]
              · exact HA.out j (by omega)
          · have hR : R = 130 := by
              rw [HR.out, if_neg]
              intro h
              have := all_upto.1 h (q + 1) (by rw [HML.out]; exact hlt)
              rw [hra] at this
              simp [hxz] at this
            subst hR
            have g1 : decide (x ≤ z) = true := by simp; omega
            clear hra
            go_wp2
            have p0 : (wr.alloc (.cells #[.int .i64 x, .int .i64 y] 79)).cell? ⟨wr.heap.size, 0, none⟩ = some (.int .i64 x) := by ((try simp (disch := first | omega | (simp only [szW] <;> omega) | fail) only [ceW]) <;> rfl)
            replace e0 := (((Below.refl _ wr).alloc (Nat.le_refl _) (.cells #[.int .i64 x, .int .i64 y] 79)).cell (World.block_lt_of_cell? _ _ e0)).trans e0
            go_quiet (fail)
            go_wp2
            go_ret
            exact ⟨rfl, below_drewN (HB.out.alloc hz _) _⟩
      · have hR : R = 0 := by
          rw [HR.out, if_pos (show risB L = true from all_upto.2 (fun j hj => HA.out j (by have := HML.out; omega)))]
        subst hR
        go_wp2
        go_ret
        exact ⟨rfl, HB.out⟩
  · have he : partE c 0 c.ks.length = 8 := if_neg hm
    have hv : seekE c = 8 := if_neg hm
    rw [he] at PR
    rw [hv]
    obtain ⟨seg, ws, ks, vs, cs, laid⟩ := c
    obtain ⟨wa, ka, va, ca, wc, kc, vc, cc⟩ := a
    dsimp only [slV] at *
    clear hin hm he hv hl hl2
    go_enter Tryz.func33, Tryz.ntmps33
    go_wp2_with fail
    refine (PR.out _ ((Below.refl _ _).alloc (Nat.le_refl _) _)).mono ?_
    rintro e w1 ⟨vl, rfl, hol, hb1⟩
    have hz_w1 := hb1.size
    try simp only [World.size_alloc, World.size_setCell] at hz_w1
    have hB1 : Below w.heap.size w w1 := by (repeat (first | with_reducible (first | exact Below.refl _ _ | assumption | exact Hid.out (by assumption) | refine Below.alloc ?_ ?_ _ | refine Below.setCell ?_ ?_ _ | refine below_drewN ?_ _ | refine Below.drew ?_ | refine below_via (by assumption) ?_ ?_) | (first | (with_reducible assumption) | omega | (simp only [szW] <;> omega) | (simp <;> omega))))
    go_wp2
    go_ret
    exact ⟨rfl, hB1⟩
end

section
open Go.RowKit

set_option maxRecDepth 100000 in
set_option maxHeartbeats 1000000 in
theorem Rising_ok (la : Option Addr) (lc : Nat) (L : List (Int × Int)) (hl : L.length ≤ 100000) (w : World) (hr : IsRow .i64 w la (prI L)) :
    Calls Tryz.prog 63 #[.slice la L.length lc] w (AnsB w (.bool (risB L))) := by
  obtain ⟨R, hR⟩ : ∃ R, risB L = R := ⟨_, rfl⟩
  have HR := Lib.hid hR
  rw [hR]
  have HRL := Lib.hid hr
  obtain ⟨m, hm⟩ : ∃ m, L.length = m := ⟨_, rfl⟩
  rw [hm] at hl ⊢
  have HML := Lib.hid hm
  clear hr hR hm
  go_enter Tryz.func63, Tryz.ntmps63
  go_wp2
  go_loopg [3] m (fun gk iv wr => ∃ k : Nat, k + gk = m ∧ iv = .int .i64 ((k : Int) + 1) ∧ Hid (Below w.heap.size w wr) ∧ Hid (∀ j, j < k + 1 → risAt L j = true))
  case atStart => exact ⟨0, by omega, rfl, Lib.hid (Below.refl _ _), Lib.hid (fun j h => by rw [show j = 0 by omega]; rfl)⟩
  case round =>
    obtain ⟨k, hk, rfl, HB, HA⟩ := hrel
    by_cases hlt : k + 1 < m
    · obtain ⟨bl, ol, rfl, c0, -, zl⟩ := pr_get (HRL.out.below HB.out) (i := k + 1) (by rw [HML.out]; exact hlt)
      obtain ⟨bl', ol', hbe, e0, -, -⟩ := pr_get (HRL.out.below HB.out) (i := k) (by rw [HML.out]; omega)
      cases hbe
      have hra : risAt L (k + 1) = (k + 1 == 0 || decide ((L.getD k (0, 0)).1 < (L.getD (k + 1) (0, 0)).1)) := rfl
      generalize (L.getD (k + 1) (0, 0)).1 = x at *
      generalize (L.getD k (0, 0)).1 = z at *
      have h1 : ((k : Int) + 1).toNat = k + 1 := by omega
      have HK2 := Lib.hid hk
      clear hk
      by_cases hxz : z < x
      · have HRA := Lib.hid hra
        have g1 : decide (x ≤ z) = false := by simp; omega
        clear hra
        go_wp2
        go_quiet (fail)
        go_wp2
        go_roundg (gk - 1)
        case measure => have := HK2.out; omega
        case rel =>
          refine ⟨k + 1, by have := HK2.out; omega, by go_num, Lib.hid (below_drewN HB.out _), Lib.hid (fun j hj => ?_)⟩
          by_cases e : j = k + 1
          · rw [e, HRA.out]; simp [hxz]
          · exact HA.out j (by omega)
      · have hRf : R = false := by
          rw [← HR.out]
          exact all_not (i := k + 1) (by rw [HML.out]; exact hlt) (by rw [hra]; simp [hxz])
        subst hRf
        have g1 : decide (x ≤ z) = true := by simp; omega
        clear hra
        go_wp2
        go_quiet (fail)
        go_wp2
        go_ret
        exact ⟨rfl, below_drewN HB.out _⟩
    · have hRt : R = true := by
        rw [← HR.out]
        exact all_upto.2 fun j hj => HA.out j (by have := HML.out; omega)
      subst hRt
      go_wp2
      go_ret
      exact ⟨rfl, HB.out⟩
set_option maxRecDepth 100000 in
set_option maxHeartbeats 1000000 in
theorem Check10_ok (c : SlC) (a : SlA) (hl : c.ws.length ≤ 1000000000000) (hl2 : c.ks.length ≤ 1000000000000) (w : World) (hin : SlIn w c a) :
    Calls Tryz.prog 35 #[slV c a] w (AnsB w (.int .i64 (seekE c))) := by
  have MY := Lib.hid (fun W (hb : Below w.heap.size w W) => May04_ok c a hl hl2 W (hin.below hb))
  by_cases hm : slMay c = true
  · have hv : seekE c = if risB (prs c 0 c.ks.length) = true then 0 else 130 := if_pos hm
    rw [hm] at MY
    obtain ⟨S, M, -, -, -, hnk, hnv, -, -, hSM, -, hnw, -⟩ := slHead_facts (slMay_head hm)
    have OF := Lib.hid (fun W (hb : Below w.heap.size w W) => Of04_ok c a 0 c.ks.length (by omega) (by omega) (by omega) (by omega) (by omega) W (hin.below hb))
    have hlen : (prs c 0 c.ks.length).length ≤ 65536 := by
      rw [prs_length]
      have := cntW_le c.ws 0 c.ks.length
      omega
    rw [hv]
    generalize prs c 0 c.ks.length = L at *
    have RI := Lib.hid (fun la lc W hr => Rising_ok la lc L (by omega) W hr)
    generalize risB L = b at *
    obtain ⟨m, hmm⟩ : ∃ m, L.length = m := ⟨_, rfl⟩
    rw [hmm] at RI
    have HML := Lib.hid hmm
    obtain ⟨seg, ws, ks, vs, cs, laid⟩ := c
    obtain ⟨wa, ka, va, ca, wc, kc, vc, cc⟩ := a
    dsimp only [slV] at *
    clear hin hm hv hl hl2 hnk hnv hnw hmm
    cases b with
    | true =>
      rw [if_pos rfl]
      go_enter Tryz.func35, Tryz.ntmps35
      go_wp2_with fail
      refine (MY.out _ ((Below.refl _ _).alloc (Nat.le_refl _) _)).mono ?_
      rintro e w1 ⟨rfl, hb1⟩
      have hz_w1 := hb1.size
      try simp only [World.size_alloc, World.size_setCell] at hz_w1
      have c_t0 : w1.cell? ⟨w.heap.size, 0, none⟩ = some (.int .i64 seg) := (hb1.cell (p := ⟨w.heap.size, 0, none⟩) (by (first | (with_reducible assumption) | omega | (simp only [szW] <;> omega) | (simp <;> omega)))).trans (by (first | (with_reducible assumption) | ((try simp (disch := first | omega | (simp only [szW] <;> omega) | fail) only [ceW]) <;> first | (with_reducible assumption) | rfl)))
      have c_t1 : w1.cell? ⟨w.heap.size, 1, none⟩ = some (.slice wa ws.length wc) := (hb1.cell (p := ⟨w.heap.size, 1, none⟩) (by (first | (with_reducible assumption) | omega | (simp only [szW] <;> omega) | (simp <;> omega)))).trans (by (first | (with_reducible assumption) | ((try simp (disch := first | omega | (simp only [szW] <;> omega) | fail) only [ceW]) <;> first | (with_reducible assumption) | rfl)))
      have c_t2 : w1.cell? ⟨w.heap.size, 2, none⟩ = some (.slice ka ks.length kc) := (hb1.cell (p := ⟨w.heap.size, 2, none⟩) (by (first | (with_reducible assumption) | omega | (simp only [szW] <;> omega) | (simp <;> omega)))).trans (by (first | (with_reducible assumption) | ((try simp (disch := first | omega | (simp only [szW] <;> omega) | fail) only [ceW]) <;> first | (with_reducible assumption) | rfl)))
      have c_t3 : w1.cell? ⟨w.heap.size, 3, none⟩ = some (.slice va vs.length vc) := (hb1.cell (p := ⟨w.heap.size, 3, none⟩) (by (first | (with_reducible assumption) | omega | (simp only [szW] <;> omega) | (simp <;> omega)))).trans (by (first | (with_reducible assumption) | ((try simp (disch := first | omega | (simp only [szW] <;> omega) | fail) only [ceW]) <;> first | (with_reducible assumption) | rfl)))
      have c_t4 : w1.cell? ⟨w.heap.size, 4, none⟩ = some (.slice ca cs.length cc) := (hb1.cell (p := ⟨w.heap.size, 4, none⟩) (by (first | (with_reducible assumption) | omega | (simp only [szW] <;> omega) | (simp <;> omega)))).trans (by (first | (with_reducible assumption) | ((try simp (disch := first | omega | (simp only [szW] <;> omega) | fail) only [ceW]) <;> first | (with_reducible assumption) | rfl)))
      have c_t5 : w1.cell? ⟨w.heap.size, 5, none⟩ = some (.int .u64 laid) := (hb1.cell (p := ⟨w.heap.size, 5, none⟩) (by (first | (with_reducible assumption) | omega | (simp only [szW] <;> omega) | (simp <;> omega)))).trans (by (first | (with_reducible assumption) | ((try simp (disch := first | omega | (simp only [szW] <;> omega) | fail) only [ceW]) <;> first | (with_reducible assumption) | rfl)))
      have z_t : w.heap.size < w1.heap.size := by omega
      have hB1 : Below w.heap.size w w1 := by (repeat (first | with_reducible (first | exact Below.refl _ _ | assumption | exact Hid.out (by assumption) | refine Below.alloc ?_ ?_ _ | refine Below.setCell ?_ ?_ _ | refine below_drewN ?_ _ | refine Below.drew ?_ | refine below_via (by assumption) ?_ ?_) | (first | (with_reducible assumption) | omega | (simp only [szW] <;> omega) | (simp <;> omega))))
      go_wp2_with fail
      refine (OF.out _ hB1).mono ?_
      rintro e w2 ⟨vl, rfl, hol, hb2⟩
      have hz_w2 := hb2.size
      try simp only [World.size_alloc, World.size_setCell] at hz_w2
      replace c_t0 : w2.cell? ⟨w.heap.size, 0, none⟩ = some (.int .i64 seg) := (hb2.cell (p := ⟨w.heap.size, 0, none⟩) (by (first | (with_reducible assumption) | omega | (simp only [szW] <;> omega) | (simp <;> omega)))).trans (by (first | (with_reducible assumption) | ((try simp (disch := first | omega | (simp only [szW] <;> omega) | fail) only [ceW]) <;> first | (with_reducible assumption) | rfl)))
      replace c_t1 : w2.cell? ⟨w.heap.size, 1, none⟩ = some (.slice wa ws.length wc) := (hb2.cell (p := ⟨w.heap.size, 1, none⟩) (by (first | (with_reducible assumption) | omega | (simp only [szW] <;> omega) | (simp <;> omega)))).trans (by (first | (with_reducible assumption) | ((try simp (disch := first | omega | (simp only [szW] <;> omega) | fail) only [ceW]) <;> first | (with_reducible assumption) | rfl)))
      replace c_t2 : w2.cell? ⟨w.heap.size, 2, none⟩ = some (.slice ka ks.length kc) := (hb2.cell (p := ⟨w.heap.size, 2, none⟩) (by (first | (with_reducible assumption) | omega | (simp only [szW] <;> omega) | (simp <;> omega)))).trans (by (first | (with_reducible assumption) | ((try simp (disch := first | omega | (simp only [szW] <;> omega) | fail) only [ceW]) <;> first | (with_reducible assumption) | rfl)))
      replace c_t3 : w2.cell? ⟨w.heap.size, 3, none⟩ = some (.slice va vs.length vc) := (hb2.cell (p := ⟨w.heap.size, 3, none⟩) (by (first | (with_reducible assumption) | omega | (simp only [szW] <;> omega) | (simp <;> omega)))).trans (by (first | (with_reducible assumption) | ((try simp (disch := first | omega | (simp only [szW] <;> omega) | fail) only [ceW]) <;> first | (with_reducible assumption) | rfl)))
      replace c_t4 : w2.cell? ⟨w.heap.size, 4, none⟩ = some (.slice ca cs.length cc) := (hb2.cell (p := ⟨w.heap.size, 4, none⟩) (by (first | (with_reducible assumption) | omega | (simp only [szW] <;> omega) | (simp <;> omega)))).trans (by (first | (with_reducible assumption) | ((try simp (disch := first | omega | (simp only [szW] <;> omega) | fail) only [ceW]) <;> first | (with_reducible assumption) | rfl)))
      replace c_t5 : w2.cell? ⟨w.heap.size, 5, none⟩ = some (.int .u64 laid) := (hb2.cell (p := ⟨w.heap.size, 5, none⟩) (by (first | (with_reducible assumption) | omega | (simp only [szW] <;> omega) | (simp <;> omega)))).trans (by (first | (with_reducible assumption) | ((try simp (disch := first | omega | (simp only [szW] <;> omega) | fail) only [ceW]) <;> first | (with_reducible assumption) | rfl)))
      replace z_t : w.heap.size < w2.heap.size := by omega
      have hB2 : Below w.heap.size w w2 := by (repeat (first | with_reducible (first | exact Below.refl _ _ | assumption | exact Hid.out (by assumption) | refine Below.alloc ?_ ?_ _ | refine Below.setCell ?_ ?_ _ | refine below_drewN ?_ _ | refine Below.drew ?_ | refine below_via (by assumption) ?_ ?_) | (first | (with_reducible assumption) | omega | (simp only [szW] <;> omega) | (simp <;> omega))))
      obtain ⟨la, lc, rfl, hil, -, -, -, -⟩ := row_of_owns hol
      rw [HML.out]
      go_wp2_with fail
      refine (RI.out la lc _ hil).mono ?_
      rintro e w3 ⟨rfl, hb3⟩
      go_wp2
      go_ret
      exact ⟨rfl, by (repeat (first | with_reducible (first | exact Below.refl _ _ | assumption | exact Hid.out (by assumption) | refine Below.alloc ?_ ?_ _ | refine Below.setCell ?_ ?_ _ | refine below_drewN ?_ _ | refine Below.drew ?_ | refine below_via (by assumption) ?_ ?_) | (first | (with_reducible assumption) | omega | (simp only [szW] <;> omega) | (simp <;> omega))))⟩
    | false =>
      rw [if_neg (by decide)]
      go_enter Tryz.func35, Tryz.ntmps35
      go_wp2_with fail
      refine (MY.out _ ((Below.refl _ _).alloc (Nat.le_refl _) _)).mono ?_
      rintro e w1 ⟨rfl, hb1⟩
      have hz_w1 := hb1.size
      try simp only [World.size_alloc, World.size_setCell] at hz_w1
      have c_t0 : w1.cell? ⟨w.heap.size, 0, none⟩ = some (.int .i64 seg) := (hb1.cell (p := ⟨w.heap.size, 0, none⟩) (by (first | (with_reducible assumption) | omega | (simp only [szW] <;> omega) | (simp <;> omega)))).trans (by (first | (with_reducible assumption) | ((try simp (disch := first | omega | (simp only [szW] <;> omega) | fail) only [ceW]) <;> first | (with_reducible assumption) | rfl)))
      have c_t1 : w1.cell? ⟨w.heap.size, 1, none⟩ = some (.slice wa ws.length wc) := (hb1.cell (p := ⟨w.heap.size, 1, none⟩) (by (first | (with_reducible assumption) | omega | (simp only [szW] <;> omega) | (simp <;> omega)))).trans (by (first | (with_reducible assumption) | ((try simp (disch := first | omega | (simp only [szW] <;> omega) | fail) only [ceW]) <;> first | (with_reducible assumption) | rfl)))
      have c_t2 : w1.cell? ⟨w.heap.size, 2, none⟩ = some (.slice ka ks.length kc) := (hb1.cell (p := ⟨w.heap.size, 2, none⟩) (by (first | (with_reducible assumption) | omega | (simp only [szW] <;> omega) | (simp <;> omega)))).trans (by (first | (with_reducible assumption) | ((try simp (disch := first | omega | (simp only [szW] <;> omega) | fail) only [ceW]) <;> first | (with_reducible assumption) | rfl)))
      have c_t3 : w1.cell? ⟨w.heap.size, 3, none⟩ = some (.slice va vs.length vc) := (hb1.cell (p := ⟨w.heap.size, 3, none⟩) (by (first | (with_reducible assumption) | omega | (simp only [szW] <;> omega) | (simp <;> omega)))).trans (by (first | (with_reducible assumption) | ((try simp (disch := first | omega | (simp only [szW] <;> omega) | fail) only [ceW]) <;> first | (with_reducible assumption) | rfl)))
      have c_t4 : w1.cell? ⟨w.heap.size, 4, none⟩ = some (.slice ca cs.length cc) := (hb1.cell (p := ⟨w.heap.size, 4, none⟩) (by (first | (with_reducible assumption) | omega | (simp only [szW] <;> omega) | (simp <;> omega)))).trans (by (first | (with_reducible assumption) | ((try simp (disch := first | omega | (simp only [szW] <;> omega) | fail) only [ceW]) <;> first | (with_reducible assumption) | rfl)))
      have c_t5 : w1.cell? ⟨w.heap.size, 5, none⟩ = some (.int .u64 laid) := (hb1.cell (p := ⟨w.heap.size, 5, none⟩) (by (first | (with_reducible assumption) | omega | (simp only [szW] <;> omega) | (simp <;> omega)))).trans (by (first | (with_reducible assumption) | ((try simp (disch := first | omega | (simp only [szW] <;> omega) | fail) only [ceW]) <;> first | (with_reducible assumption) | rfl)))
      have z_t : w.heap.size < w1.heap.size := by omega
      have hB1 : Below w.heap.size w w1 := by (repeat (first | with_reducible (first | exact Below.refl _ _ | assumption | exact Hid.out (by assumption) | refine Below.alloc ?_ ?_ _ | refine Below.setCell ?_ ?_ _ | refine below_drewN ?_ _ | refine Below.drew ?_ | refine below_via (by assumption) ?_ ?_) | (first | (with_reducible assumption) | omega | (simp only [szW] <;> omega) | (simp <;> omega))))
      go_wp2_with fail
      refine (OF.out _ hB1).mono ?_
      rintro e w2 ⟨vl, rfl, hol, hb2⟩
      have hz_w2 := hb2.size
      try simp only [World.size_alloc, World.size_setCell] at hz_w2
      replace c_t0 : w2.cell? ⟨w.heap.size, 0, none⟩ = some (.int .i64 seg) := (hb2.cell (p := ⟨w.heap.size, 0, none⟩) (by (first | (with_reducible assumption) | omega | (simp only [szW] <;> omega) | (simp <;> omega)))).trans (by (first | (with_reducible assumption) | ((try simp (disch := first | omega | (simp only [szW] <;> omega) | fail) only [ceW]) <;> first | (with_reducible assumption) | rfl)))
      replace c_t1 : w2.cell? ⟨w.heap.size, 1, none⟩ = some (.slice wa ws.length wc) := (hb2.cell (p := ⟨w.heap.size, 1, none⟩) (by (first | (with_reducible assumption) | omega | (simp only [szW] <;> omega) | (simp <;> omega)))).trans (by (first | (with_reducible assumption) | ((try simp (disch := first | omega | (simp only [szW] <;> omega) | fail) only [ceW]) <;> first | (with_reducible assumption) | rfl)))
      replace c_t2 : w2.cell? ⟨w.heap.size, 2, none⟩ = some (.slice ka ks.length kc) := (hb2.cell (p := ⟨w.heap.size, 2, none⟩) (by (first | (with_reducible assumption) | omega | (simp only [szW] <;> omega) | (simp <;> omega)))).trans (by (first | (with_reducible assumption) | ((try simp (disch := first | omega | (simp only [szW] <;> omega) | fail) only [ceW]) <;> first | (with_reducible assumption) | rfl)))
      replace c_t3 : w2.cell? ⟨w.heap.size, 3, none⟩ = some (.slice va vs.length vc) := (hb2.cell (p := ⟨w.heap.size, 3, none⟩) (by (first | (with_reducible assumption) | omega | (simp only [szW] <;> omega) | (simp <;> omega)))).trans (by (first | (with_reducible assumption) | ((try simp (disch := first | omega | (simp only [szW] <;> omega) | fail) only [ceW]) <;> first | (with_reducible assumption) | rfl)))
      replace c_t4 : w2.cell? ⟨w.heap.size, 4, none⟩ = some (.slice ca cs.length cc) := (hb2.cell (p := ⟨w.heap.size, 4, none⟩) (by (first | (with_reducible assumption) | omega | (simp only [szW] <;> omega) | (simp <;> omega)))).trans (by (first | (with_reducible assumption) | ((try simp (disch := first | omega | (simp only [szW] <;> omega) | fail) only [ceW]) <;> first | (with_reducible assumption) | rfl)))
      replace c_t5 : w2.cell? ⟨w.heap.size, 5, none⟩ = some (.int .u64 laid) := (hb2.cell (p := ⟨w.heap.size, 5, none⟩) (by (first | (with_reducible assumption) | omega | (simp only [szW] <;> omega) | (simp <;> omega)))).trans (by (first | (with_reducible assumption) | ((try simp (disch := first | omega | (simp only [szW] <;> omega) | fail) only [ceW]) <;> first | (with_reducible assumption) | rfl)))
      replace z_t : w.heap.size < w2.heap.size := by omega
      have hB2 : Below w.heap.size w w2 := by (repeat (first | with_reducible (first | exact Below.refl _ _ | assumption | exact Hid.out (by assumption) | refine Below.alloc ?_ ?_ _ | refine Below.setCell ?_ ?_ _ | refine below_drewN ?_ _ | refine Below.drew ?_ | refine below_via (by assumption) ?_ ?_) | (first | (with_reducible assumption) | omega | (simp only [szW] <;> omega) | (simp <;> omega))))
      obtain ⟨la, lc, rfl, hil, -, -, -, -⟩ := row_of_owns hol
      rw [HML.out]
      go_wp2_with fail
      refine (RI.out la lc _ hil).mono ?_
      rintro e w3 ⟨rfl, hb3⟩
      go_wp2
      go_ret
      exact ⟨rfl, by (repeat (first | with_reducible (first | exact Below.refl _ _ | assumption | exact Hid.out (by assumption) | refine Below.alloc ?_ ?_ _ | refine Below.setCell ?_ ?_ _ | refine below_drewN ?_ _ | refine Below.drew ?_ | refine below_via (by assumption) ?_ ?_) | (first | (with_reducible assumption) | omega | (simp only [szW] <;> omega) | (simp <;> omega))))⟩
  · have hv : seekE c = 8 := if_neg hm
    have hm' : slMay c = false := by simpa using hm
    rw [hm'] at MY
    rw [hv]
    obtain ⟨seg, ws, ks, vs, cs, laid⟩ := c
    obtain ⟨wa, ka, va, ca, wc, kc, vc, cc⟩ := a
    dsimp only [slV] at *
    clear hin hm hv hl hl2 hm'
    go_enter Tryz.func35, Tryz.ntmps35
    go_wp2_with fail
    refine (MY.out _ ((Below.refl _ _).alloc (Nat.le_refl _) _)).mono ?_
    rintro e w1 ⟨rfl, hb1⟩
    have hz_w1 := hb1.size
    try simp only [World.size_alloc, World.size_setCell] at hz_w1
    have hB1 : Below w.heap.size w w1 := by (repeat (first | with_reducible (first | exact Below.refl _ _ | assumption | exact Hid.out (by assumption) | refine Below.alloc ?_ ?_ _ | refine Below.setCell ?_ ?_ _ | refine below_drewN ?_ _ | refine Below.drew ?_ | refine below_via (by assumption) ?_ ?_) | (first | (with_reducible assumption) | omega | (simp only [szW] <;> omega) | (simp <;> omega))))
    go_wp2
    go_ret
    exact ⟨rfl, hB1⟩
end
end Go.Proofs.YtmnlagmmbfjbeaaGreatDoor
