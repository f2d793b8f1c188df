/-
  HeapPaths: a node's path is that of the node above it, and itself; each node of it has the node's leaves among its own.
  No condition.
-/
import Derived.Test.YtbbacfhhkfgaoaaHeapAlive
import Derived.Test.YtbbacfhhkfgaoaaHeapLaws
namespace Go.Proofs.Ytbbacfhhkfgaoaa
open Go.RowKit Go.Shelf
set_option linter.unusedVariables false
set_option linter.unusedSimpArgs false

theorem IsInts.take {w : World} {a : Option Addr} {xs : List Int} (h : IsInts w a xs) (k : Nat) (hk : k ≤ xs.length) : IsInts w a (xs.take k) := by
  intro i hi
  have hi' : i < k := by simp at hi; omega
  obtain ⟨b, off, ha, hlt, hc⟩ := h i (by omega)
  refine ⟨b, off, ha, hlt, fun j hj => ?_⟩
  have hj' : j < k := by simp at hj; omega
  rw [hc j (by omega)]
  simp [List.getD_eq_getElem?_getD, List.getElem?_take, hj']
theorem caps_of_owns {w : World} {B : Nat} {v : Value} {xs : List Int} (h : w.ownsRow B 3 1 v xs.length (xs.map (Value.int .i64))) (hl : 0 < xs.length) :
    ∃ a cap, v = .slice (some a) xs.length cap ∧ IsInts w (some a) xs ∧ xs.length ≤ cap := by
  obtain ⟨a, cap, rfl, hi, -, hn⟩ := ints_of_owns h
  obtain ⟨h1, ⟨h2, _⟩ | ⟨g, cap', cur, hv, hg, hh, hn', hm, hs, ht⟩⟩ := h
  · rename_i h0; omega
  · cases hv; exact ⟨_, _, rfl, hi, hn'⟩

set_option maxHeartbeats 4000000 in
set_option maxRecDepth 100000 in
theorem HeapPaths_walk (l n : Int) (w : World) : Calls Try.prog 7 #[.int .i64 l, .int .i64 n] w fun e w' => e = .returned (.bool true) ∧ Below w.heap.size w w' := by
  by_cases h : ndE l n = 0
  · obtain ⟨h1, h2, h3, h4⟩ := ndE_zero h
    have hp := (pow_bdI l h2).2
    obtain ⟨N, rfl⟩ := Int.eq_ofNat_of_zero_le (show 0 ≤ n by omega)
    have hA : unA l N = fst l N := by rw [unA, h]; rfl
    have hB : unB l N = fst l N + cnt l N := by rw [unB, h]; rfl
    have hd : dpR l N = (N.log2 : Nat) := by rw [dpR, h]; rfl
    have hx : ptR l N = ints (pth N) := by rw [ptR, h]; rfl
    have hD14 : N.log2 < 14 := log2_lt_of (by omega) (by omega)
    have U := fun w => Under_gives l N w
    have P := fun w => Path_any l N w
    have D := fun w => Depth_any l N w
    rw [hA, hB, h] at U
    rw [hx, h] at P
    rw [hd, h] at D
    have hlen : (ints (pth N)).length = N.log2 + 1 := by rw [ints_length, pth_length]
    have V : ∀ k x, k < (ints (pth N)).length → (ints (pth N)).getD k 0 = x → ∃ ca cb : Int, ca ≤ fst l N ∧ fst l N + cnt l N ≤ cb ∧ ∀ w, Calls Try.prog 9 #[.int .i64 l, .int .i64 x] w (Gives w (.tuple #[.int .i64 ca, .int .i64 cb, .int .i64 0])) := by
      intro k x hk hgx
      have e1 := pth_get N (by omega) (N.log2 - k) (by omega)
      rw [show N.log2 - (N.log2 - k) = k by omega] at e1
      rw [getD_ints, e1] at hgx
      obtain ⟨i1, i2, i3, i4⟩ := und_path h (N.log2 - k) (by omega)
      have := fun w => Under_gives l x w
      rw [← hgx, unA, unB, i1, if_pos rfl, if_pos rfl] at this
      exact ⟨_, _, i3, i4, by rw [← hgx]; exact this⟩
    have hup : 2 ≤ N → (ints (pth N)).take N.log2 = ints (pth (N / 2)) ∧ (ints (pth N)).getD N.log2 0 = N ∧ ptR l (N / 2 : Nat) = ints (pth (N / 2)) ∧ ndE l (N / 2 : Nat) = 0 := by
      intro hN2
      have e2 := log2_two hN2
      have e3 : ndE l (N / 2 : Nat) = 0 := ndE_ok h1 h2 (by omega) (by omega)
      have hl2 : (ints (pth (N / 2))).length = N.log2 := by rw [ints_length, pth_length, e2]
      rw [pth_two hN2, ints_append]
      refine ⟨by rw [← hl2, List.take_left], ?_, by rw [ptR, e3]; rfl, e3⟩
      rw [← hl2, List.getD_eq_getElem?_getD, List.getElem?_append_right (Nat.le_refl _)]
      simp [ints]
    have hone : N = 1 → (ints (pth N)).getD 0 0 = 1 ∧ N.log2 = 0 := by
      intro e; subst e
      rw [pth_one (Nat.le_refl _)]
      exact ⟨rfl, rfl⟩
    have hN16 : N < 16384 := by omega
    generalize ints (pth N) = xs at *
    generalize fst l N = A at *
    generalize A + cnt l N = B at *
    generalize N.log2 = d at *
    have hl1 : ((xs.length : Int) == 0) = false := by
      have : (xs.length : Int) ≠ 0 := by omega
      simpa using this
    have hl2 : ((xs.length : Int) == (d : Int) + 1) = true := by simp; omega
    have hl3 : xs.length ≤ 14 := by omega
    have U := Lib.hid U
    have P := Lib.hid P
    have D := Lib.hid D
    have V := Lib.hid V
    have HL := Lib.hid hlen
    have HUP := Lib.hid hup
    have HONE := Lib.hid hone
    clear h hA hB hd hx hp h4 hlen hup hone
    go_enter Try.func7, Try.ntmps7
    go_wp2_with fail
    refine (alive16 _).mono ?_
    rintro e w1 ⟨rfl, hb1⟩
    have hz_w1 := hb1.size
    try simp only [World.size_alloc, World.size_setCell] at hz_w1
    go_wp2_with fail
    refine (P.out _).mono ?_
    rintro e w2 ⟨v2, rfl, ho2, hb2⟩
    have hz_w2 := hb2.size
    try simp only [World.size_alloc, World.size_setCell] at hz_w2
    go_wp2_with fail
    refine (D.out _).mono ?_
    rintro e w3 ⟨rfl, hb3⟩
    have hz_w3 := hb3.size
    try simp only [World.size_alloc, World.size_setCell] at hz_w3
    have ho3 := owns_below ho2 hb3
    obtain ⟨ax, cx, rfl, hi3, hcx⟩ := caps_of_owns ho3 (by have := HL.out; omega)
    have HI3 := Lib.hid hi3
    clear ho2 ho3 hi3
    go_wp2_with fail
    refine (U.out _).mono ?_
    rintro e w4 ⟨rfl, hb4⟩
    have hz_w4 := hb4.size
    try simp only [World.size_alloc, World.size_setCell] at hz_w4
    have HI4 := Lib.hid (HI3.out.below hb4)
    have hB4 : Below w.heap.size w w4 := by (repeat (first | (with_reducible exact Below.refl _ _) | (with_reducible assumption) | (with_reducible exact Hid.out (by with_reducible assumption)) | (with_reducible refine Below.alloc ?_ ?_ _) | (with_reducible refine Below.setCell ?_ ?_ _) | (with_reducible refine below_drewN ?_ _) | (with_reducible refine Below.drew ?_) | (with_reducible refine below_via (by with_reducible assumption) ?_ ?_) | (first | (with_reducible assumption) | omega | (simp only [World.size_alloc, World.size_setCell, World.size_drew, World.heap_drewN] <;> omega) | (simp <;> omega))))
    go_wp2
    go_loopg [13] xs.length (fun g i wr => ∃ k : Nat, k + g = xs.length ∧ i = .int .i64 k ∧ Hid (IsInts wr (some ax) xs) ∧ Below w.heap.size w wr)
    case atStart => exact ⟨0, by omega, rfl, HI4, hB4⟩
    case round =>
      obtain ⟨k, hk, rfl, hi, hbel⟩ := hrel
      by_cases hlt : k < xs.length
      · obtain ⟨b1, o1, x, hax, hxk, hc, _⟩ := hi.out.get hlt
        cases hax
        obtain ⟨ca, cb, q1, q2, HV⟩ := V.out k x hlt hxk.out
        have HV := Lib.hid HV
        have hzw := hbel.size
        go_wp2_with fail
        refine (HV.out _).mono ?_
        rintro e w5 ⟨rfl, hb5⟩
        have hi5 := Lib.hid (hi.out.below hb5)
        have hbel5 := hbel.trans (hb5.mono hzw)
        go_wp2
        go_roundg (gk - 1)
        case measure => omega
        case rel => exact ⟨k + 1, by omega, by go_num, hi5, hbel5⟩
      · by_cases hN1 : N = 1
        · obtain ⟨g0, hd0⟩ := HONE.out hN1
          subst hN1
          obtain rfl : d = 0 := hd0
          have hx1 : ((xs.length : Int) == 1) = true := by have := HL.out; simp; omega
          obtain ⟨b1, o1, x, hax, hxk, hc, _⟩ := hi.out.get (k := 0) (by have := HL.out; omega)
          cases hax
          rw [g0] at hxk
          have hx := hxk.out
          subst hx
          have hpos : (0 : Int) < (xs.length : Int) := by have := HL.out; omega
          rw [Nat.add_zero] at hc
          clear g0 hxk
          go_wp2
          go_ret
          exact ⟨by simp, hbel⟩
        · have hN2 : 2 ≤ N := by omega
          obtain ⟨t1, t2, t3, t4⟩ := HUP.out hN2
          have P2 := fun w => Path_any l (N / 2 : Nat) w
          rw [t3, t4] at P2
          have P2 := Lib.hid P2
          have e1 : ((N : Int) == 1) = false := by simp; omega
          have e2 : ((N : Int) == (N : Int)) = true := by simp
          have hzw := hbel.size
          have hdl : d < xs.length := by have := HL.out; omega
          have T1 := Lib.hid t1
          obtain ⟨b1, o1, x, hax, hxk, hc, hbl⟩ := hi.out.get hdl
          cases hax
          rw [t2] at hxk
          have hx := hxk.out
          subst hx
          clear t1 t2 t3 t4 hxk hN1
          go_wp2_with fail
          refine (P2.out _).mono ?_
          rintro e w5 ⟨v5, rfl, ho5, hb5⟩
          have hi5 := hi.out.below hb5
          have hc5 := (hb5.cell (p := ⟨b1, o1 + d, none⟩) hbl).trans hc
          have hbel5 := hbel.trans (hb5.mono hzw)
          obtain ⟨a5, c5, rfl, hi6, -⟩ := ints_of_owns ho5
          have hle : (xs.take d).length = d := by simp; omega
          have HS := SameInts_ok (some ⟨b1, o1, none⟩) a5 cx c5 (xs.take d) (ints (pth (N / 2))) w5 (hi5.take d (by omega)) hi6 (by rw [hle]; omega)
          rw [hle, T1.out] at HS
          have HS := Lib.hid HS
          have hcx2 : (d : Int) ≤ (cx : Int) := by omega
          have hd0 : (0 : Int) ≤ (d : Int) := by omega
          have hd1 : (d : Int) < (xs.length : Int) := by omega
          clear ho5 hi5 hi6 hc hi HI4 HI3 hle
          go_wp2_with fail
          refine HS.out.mono ?_
          rintro e w6 ⟨rfl, n6, rfl⟩
          go_wp2
          go_ret
          exact ⟨by simp, below_drewN hbel5 _⟩
  · have h2 := ndE_no h
    have hr : ptR l n = [] := by rw [ptR, h2]; rfl
    have hr2 : dpR l n = 0 := by rw [dpR, h2]; rfl
    have P := fun w => Path_any l n w
    have D := fun w => Depth_any l n w
    rw [hr, h2] at P
    rw [hr2, h2] at D
    have P := Lib.hid P
    have D := Lib.hid D
    clear h h2 hr hr2
    go_enter Try.func7, Try.ntmps7
    go_wp2_with fail
    refine (alive16 _).mono ?_
    rintro e w1 ⟨rfl, hb1⟩
    have hz_w1 := hb1.size
    try simp only [World.size_alloc, World.size_setCell] at hz_w1
    go_wp2_with fail
    refine (P.out _).mono ?_
    rintro e w2 ⟨v2, rfl, ho2, hb2⟩
    have hz_w2 := hb2.size
    try simp only [World.size_alloc, World.size_setCell] at hz_w2
    obtain ⟨a2, c2, rfl, -, -⟩ := ints_of_owns ho2
    clear ho2
    go_wp2_with fail
    refine (D.out _).mono ?_
    rintro e w3 ⟨rfl, hb3⟩
    have hz_w3 := hb3.size
    try simp only [World.size_alloc, World.size_setCell] at hz_w3
    have hB4 : Below w.heap.size w w3 := by (repeat (first | (with_reducible exact Below.refl _ _) | (with_reducible assumption) | (with_reducible exact Hid.out (by with_reducible assumption)) | (with_reducible refine Below.alloc ?_ ?_ _) | (with_reducible refine Below.setCell ?_ ?_ _) | (with_reducible refine below_drewN ?_ _) | (with_reducible refine Below.drew ?_) | (with_reducible refine below_via (by with_reducible assumption) ?_ ?_) | (first | (with_reducible assumption) | omega | (simp only [World.size_alloc, World.size_setCell, World.size_drew, World.heap_drewN] <;> omega) | (simp <;> omega))))
    go_wp2
    go_ret
    exact ⟨rfl, hB4⟩
end Go.Proofs.Ytbbacfhhkfgaoaa
