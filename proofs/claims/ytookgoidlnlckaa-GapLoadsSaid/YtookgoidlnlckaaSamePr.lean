/- The walk of shelfmarkref04.SamePairs. -/
import Derived.Test.YtookgoidlnlckaaSeekAll
namespace Go.Proofs.Ytookgoidlnlckaa
open Go.RowKit
set_option linter.unusedVariables false
set_option linter.unusedSimpArgs false

theorem pr_take_succ {xs ys : List (Int × Int)} {k : Nat} (hl : xs.length = ys.length) (hk : k < xs.length) (ht : xs.take k = ys.take k) (h1 : (xs.getD k (0, 0)).1 = (ys.getD k (0, 0)).1) (h2 : (xs.getD k (0, 0)).2 = (ys.getD k (0, 0)).2) : xs.take (k + 1) = ys.take (k + 1) := by
  have h : xs.getD k (0, 0) = ys.getD k (0, 0) := Prod.ext h1 h2
  rw [List.getD_eq_getElem?_getD, List.getD_eq_getElem?_getD, List.getElem?_eq_getElem hk, List.getElem?_eq_getElem (by omega), Option.getD_some, Option.getD_some] at h
  rw [List.take_succ_eq_append_getElem hk, List.take_succ_eq_append_getElem (by omega), ht, h]
set_option maxHeartbeats 1000000 in
theorem SamePairs_ok (a b : Option Addr) (ca cb : Nat) (xs ys : List (Int × Int)) (w : World) (ha : IsRow .i64 w a (prI xs)) (hb : IsRow .i64 w b (prI ys)) (hm : xs.length ≤ 1000000000) :
    Calls Try.prog 10 #[.slice a xs.length ca, .slice b ys.length cb] w (AnsB w (.bool (decide (xs = ys)))) := by
  by_cases hlen : xs.length = ys.length
  · have hl1 : ((xs.length : Int) != (ys.length : Int)) = false := by simp [hlen]
    have HL := Lib.hid hlen
    clear hlen
    have HA := Lib.hid ha
    have HB := Lib.hid hb
    clear ha hb
    go_enter Try.func10, Try.ntmps10
    go_wp2
    go_loopg [5] xs.length (fun g i wr => ∃ (k n : Nat), k + g = xs.length ∧ i = .int .i64 k ∧ wr = w.drewN n ∧ xs.take k = ys.take k)
    case atStart => exact ⟨0, 0, by omega, rfl, rfl, by simp⟩
    case round =>
      obtain ⟨k, n, hk, rfl, rfl, ht⟩ := hrel
      have HT := Lib.hid ht
      clear ht
      by_cases hlt : k < xs.length
      · have hlt2 : k < ys.length := by rw [← HL.out]; exact hlt
        obtain ⟨b1, o1, rfl, c0, c1, z1⟩ := pr_get HA.out hlt
        obtain ⟨b2, o2, rfl, e0, e1, z2⟩ := pr_get HB.out hlt2
        have HX := Lib.hid (pr_take_succ (xs := xs) (ys := ys) (k := k) HL.out hlt HT.out)
        have HNE : Hid (¬ ((xs.getD k (0, 0)).1 = (ys.getD k (0, 0)).1 ∧ (xs.getD k (0, 0)).2 = (ys.getD k (0, 0)).2) → xs ≠ ys) := Lib.hid fun h e => h (by rw [e]; exact ⟨rfl, rfl⟩)
        generalize (xs.getD k (0, 0)).1 = x1 at *
        generalize (xs.getD k (0, 0)).2 = x2 at *
        generalize (ys.getD k (0, 0)).1 = y1 at *
        generalize (ys.getD k (0, 0)).2 = y2 at *
        by_cases h1 : x1 = y1
        · subst h1
          by_cases h2 : x2 = y2
          · subst h2
            have HX2 := Lib.hid (HX.out rfl rfl)
            clear HX HNE
            go_wp2
            go_quiet (fail)
            go_wp2
            go_roundg (gk - 1)
            case measure => omega
            case rel => exact ⟨k + 1, n + nq, by omega, by go_num, by simp, HX2.out⟩
          · have he : (x2 == y2) = false := by simpa using h2
            have HE := Lib.hid h2
            clear h2
            go_wp2
            go_quiet (fail)
            go_wp2
            go_ret
            exact ⟨by have : xs ≠ ys := HNE.out fun h => HE.out h.2
                      simp [this], below_drewN (below_drewN (Below.refl _ _) _) _⟩
        · have he : (x1 == y1) = false := by simpa using h1
          have HE := Lib.hid h1
          clear h1
          go_wp2
          go_quiet (fail)
          go_wp2
          go_ret
          exact ⟨by have : xs ≠ ys := HNE.out fun h => HE.out h.1
                    simp [this], below_drewN (below_drewN (Below.refl _ _) _) _⟩
      · go_wp2
        go_ret
        have : xs = ys := by
          have := HT.out
          rwa [List.take_of_length_le (by omega), List.take_of_length_le (by have := HL.out; omega)] at this
        exact ⟨by simp [this], below_drewN (Below.refl _ _) _⟩
  · have hl1 : ((xs.length : Int) != (ys.length : Int)) = true := by simp; omega
    have HL := Lib.hid hlen
    clear hlen ha hb
    go_enter Try.func10, Try.ntmps10
    go_wp2
    go_ret
    have : xs ≠ ys := fun e => HL.out (by rw [e])
    exact ⟨by simp [this], Below.refl _ _⟩
end Go.Proofs.Ytookgoidlnlckaa
