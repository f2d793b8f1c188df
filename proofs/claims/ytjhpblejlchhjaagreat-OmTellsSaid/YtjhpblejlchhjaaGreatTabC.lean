/- Merged: Same, TabSame, TabTwin14. -/
import Derived.Test.YtjhpblejlchhjaaGreatMLS
import Derived.Test.YtjhpblejlchhjaaGreatTabA
namespace Go.Proofs.YtjhpblejlchhjaaGreat
set_option maxRecDepth 100000
set_option maxHeartbeats 4000000
set_option linter.unusedVariables false
set_option linter.unusedSimpArgs false
section
open Go.RowKit

theorem take_succ_eq {xs ys : List Int} {k : Nat} (hl : xs.length = ys.length) (hk : k < xs.length) (h : xs.take k = ys.take k) (h2 : xs.getD k 0 = ys.getD k 0) : xs.take (k+1) = ys.take (k+1) := by
  rw [List.take_succ_eq_append_getElem hk, List.take_succ_eq_append_getElem (by omega), h]
  simp [List.getD_eq_getElem?_getD, hk, (by omega : k < ys.length)] at h2
  rw [h2]

theorem SameInts_ok (a b : Option Addr) (ca cb : Nat) (xs ys : List Int) (w : World) (ha : IsInts w a xs) (hb : IsInts w b ys) (hm : xs.length ≤ 1000000000) :
    Calls Tryz.prog 70 #[.slice a xs.length ca, .slice b ys.length cb] w fun e w' => e = .returned (.bool (decide (xs = ys))) ∧ ∃ n, w' = w.drewN n := by
  by_cases hlen : xs.length = ys.length
  · have hl1 : ((xs.length : Int) != (ys.length : Int)) = false := by simp [hlen]
    have HL := Lib.hid hlen
    clear hlen
    have HA := Lib.hid ha
    have HB := Lib.hid hb
    clear ha hb
    go_enter Tryz.func70, Tryz.ntmps70
    go_wp2
    go_loopg [5] xs.length (fun g i wr => ∃ (k n : Nat), k + g = xs.length ∧ i = .int .i64 k ∧ wr = w.drewN n ∧ xs.take k = ys.take k)
    case atStart => exact ⟨0, 0, by omega, rfl, rfl, by simp⟩
    case round =>
      obtain ⟨k, n, hk, rfl, rfl, ht⟩ := hrel
      have HT := Lib.hid ht
      clear ht
      by_cases hlt : k < xs.length
      · have hlt2 : k < ys.length := by rw [← HL.out]; exact hlt
        obtain ⟨b1, o1, x, rfl, hx, h1, _⟩ := HA.out.get hlt
        obtain ⟨b2, o2, y, rfl, hy, h2, _⟩ := HB.out.get hlt2
        by_cases heq : x = y
        · have he : (x != y) = false := by simpa using heq
          have HE := Lib.hid heq
          clear heq
          go_wp2
          go_quiet (fail)
          go_wp2
          go_roundg (gk - 1)
          case measure => omega
          case rel => exact ⟨k + 1, n + nq, by omega, by go_num, by simp, take_succ_eq HL.out hlt HT.out (hx.out.trans (HE.out.trans hy.out.symm))⟩
        · have he : (x != y) = true := by simpa using heq
          have HE := Lib.hid heq
          clear heq
          go_wp2
          go_quiet (fail)
          go_wp2
          go_ret
          exact ⟨by have : xs ≠ ys := fun h => HE.out (by rw [← hx.out, ← hy.out, h])
                    simp [this], _, World.drewN_drewN _ _ _⟩
      · go_wp2
        go_ret
        have h1 : xs.take k = xs := List.take_of_length_le (by omega)
        have h2 : ys.take k = ys := List.take_of_length_le (by rw [← HL.out]; omega)
        have : xs = ys := by rw [← h1, ← h2]; exact HT.out
        exact ⟨by simp [this], _, rfl⟩
  · have hl1 : ((xs.length : Int) != (ys.length : Int)) = true := by simp; omega
    have HL := Lib.hid hlen
    clear hlen
    go_enter Tryz.func70, Tryz.ntmps70
    go_wp2
    go_ret
    exact ⟨by have : xs ≠ ys := fun h => HL.out (by rw [h])
              simp [this], 0, rfl⟩
end

section
open Go.RowKit Go.Shelf

theorem Equal_ok (a b : Option Addr) (ca cb : Nat) (xs ys : List Int) (w : World) (ha : IsInts w a xs) (hb : IsInts w b ys) (hm : xs.length ≤ 1000000000) :
    Calls Tryz.prog 67 #[.slice a xs.length ca, .slice b ys.length cb] w fun e w' => e = .returned (.bool (decide (xs = ys))) ∧ ∃ n, w' = w.drewN n := by
  by_cases hlen : xs.length = ys.length
  · have hl1 : ((xs.length : Int) != (ys.length : Int)) = false := by simp [hlen]
    have HL := Lib.hid hlen
    clear hlen
    have HA := Lib.hid ha
    have HB := Lib.hid hb
    clear ha hb
    go_enter Tryz.func67, Tryz.ntmps67
    go_wp2
    go_loopg [13] xs.length (fun g i wr => ∃ (k n : Nat), k + g = xs.length ∧ i = .int .i64 k ∧ wr = w.drewN n ∧ xs.take k = ys.take k)
    case atStart => exact ⟨0, 0, by omega, rfl, rfl, by simp⟩
    case round =>
      obtain ⟨k, n, hk, rfl, rfl, ht⟩ := hrel
      have HT := Lib.hid ht
      clear ht
      by_cases hlt : k < xs.length
      · have hlt2 : k < ys.length := by rw [← HL.out]; exact hlt
        obtain ⟨b1, o1, x, rfl, hx, h1, _⟩ := HA.out.get hlt
        obtain ⟨b2, o2, y, rfl, hy, h2, _⟩ := HB.out.get hlt2
        by_cases heq : x = y
        · have he : (x != y) = false := by simpa using heq
          have HE := Lib.hid heq
          clear heq
          go_wp2
          go_quiet (fail)
          go_wp2
          go_roundg (gk - 1)
          case measure => omega
          case rel => exact ⟨k + 1, n + nq, by omega, by go_num, by simp, take_succ_eq HL.out hlt HT.out (hx.out.trans (HE.out.trans hy.out.symm))⟩
        · have he : (x != y) = true := by simpa using heq
          have HE := Lib.hid heq
          clear heq
          go_wp2
          go_quiet (fail)
          go_wp2
          go_ret
          exact ⟨by have : xs ≠ ys := fun h => HE.out (by rw [← hx.out, ← hy.out, h])
                    simp [this], _, World.drewN_drewN _ _ _⟩
      · go_wp2
        go_ret
        have hk2 : k = xs.length := by omega
        have hxy : xs = ys := by
          have := HT.out
          rw [hk2, List.take_length, HL.out, List.take_length] at this
          exact this
        exact ⟨by simp [hxy], _, rfl⟩
  · have hl1 : ((xs.length : Int) != (ys.length : Int)) = true := by simp; omega
    have hxy : xs ≠ ys := fun h => hlen (by rw [h])
    have HX := Lib.hid hxy
    clear ha hb hlen hxy
    go_enter Tryz.func67, Tryz.ntmps67
    go_wp2
    go_ret
    exact ⟨by simp [HX.out], 0, rfl⟩

theorem SameT_ok (ga aa gb ab : Option Addr) (gc ac gd ad : Nat) (gs ps gs' ps' : List Int) (w : World) (hg : IsInts w ga gs) (hp : IsInts w aa ps) (hg' : IsInts w gb gs') (hp' : IsInts w ab ps') (hlg : gs.length ≤ 1000000000) (hla : ps.length ≤ 1000000000) :
    Calls Tryz.prog 40 #[tabV ga gs.length gc aa ps.length ac, tabV gb gs'.length gd ab ps'.length ad] w fun e w' => e = .returned (.bool (decide (gs = gs') && decide (ps = ps'))) ∧ Below w.heap.size w w' := by
  have hab : Below w.heap.size w ((w.alloc (.cells #[.slice ga gs.length gc, .slice aa ps.length ac] 31)).alloc (.cells #[.slice gb gs'.length gd, .slice ab ps'.length ad] 31)) := ((Below.refl _ w).alloc (Nat.le_refl _) _).alloc (by simp) _
  have H1 := Lib.hid (Equal_ok ga gb gc gd gs gs' _ (hg.below hab) (hg'.below hab) hlg)
  have H2 := Lib.hid (fun n => Equal_ok aa ab ac ad ps ps' _ (hp.below (below_drewN hab n)) (hp'.below (below_drewN hab n)) hla)
  have HB := Lib.hid hab
  clear hg hp hg' hp' hab
  by_cases h : gs = gs'
  · have hd : decide (gs = gs') = true := by simp [h]
    rw [hd] at H1 ⊢
    clear hd
    have HH := Lib.hid h
    clear h
    go_enter Tryz.func40, Tryz.ntmps40
    go_wp2_with fail
    refine H1.out.mono ?_
    rintro e w3 ⟨rfl, n, rfl⟩
    go_wp2_with fail
    refine (H2.out n).mono ?_
    rintro e w4 ⟨rfl, m, rfl⟩
    go_wp2
    go_ret
    exact ⟨by simp, below_drewN HB.out (n + m)⟩
  · have hd : decide (gs = gs') = false := by simp [h]
    rw [hd] at H1 ⊢
    clear hd h
    go_enter Tryz.func40, Tryz.ntmps40
    go_wp2_with fail
    refine H1.out.mono ?_
    rintro e w3 ⟨rfl, n, rfl⟩
    go_wp2
    go_ret
    exact ⟨by simp, below_drewN HB.out n⟩

theorem Same14_ok (ga aa gb ab : Option Addr) (gc ac gd ad : Nat) (gs ps gs' ps' : List Int) (w : World) (hg : IsInts w ga gs) (hp : IsInts w aa ps) (hg' : IsInts w gb gs') (hp' : IsInts w ab ps') (hlg : gs.length ≤ 1000000000) (hla : ps.length ≤ 1000000000) :
    Calls Tryz.prog 42 #[tabV ga gs.length gc aa ps.length ac, tabV gb gs'.length gd ab ps'.length ad] w fun e w' => e = .returned (.bool (decide (gs = gs') && decide (ps = ps'))) ∧ Below w.heap.size w w' := by
  have hab : Below w.heap.size w ((w.alloc (.cells #[.slice ga gs.length gc, .slice aa ps.length ac] 31)).alloc (.cells #[.slice gb gs'.length gd, .slice ab ps'.length ad] 31)) := ((Below.refl _ w).alloc (Nat.le_refl _) _).alloc (by simp) _
  have H1 := Lib.hid (SameInts_ok ga gb gc gd gs gs' _ (hg.below hab) (hg'.below hab) hlg)
  have H2 := Lib.hid (fun n => SameInts_ok aa ab ac ad ps ps' _ (hp.below (below_drewN hab n)) (hp'.below (below_drewN hab n)) hla)
  have HB := Lib.hid hab
  clear hg hp hg' hp' hab
  by_cases h : gs = gs'
  · have hd : decide (gs = gs') = true := by simp [h]
    rw [hd] at H1 ⊢
    clear hd
    have HH := Lib.hid h
    clear h
    go_enter Tryz.func42, Tryz.ntmps42
    go_wp2_with fail
    refine H1.out.mono ?_
    rintro e w3 ⟨rfl, n, rfl⟩
    go_wp2_with fail
    refine (H2.out n).mono ?_
    rintro e w4 ⟨rfl, m, rfl⟩
    go_wp2
    go_ret
    exact ⟨by simp, below_drewN HB.out (n + m)⟩
  · have hd : decide (gs = gs') = false := by simp [h]
    rw [hd] at H1 ⊢
    clear hd h
    go_enter Tryz.func42, Tryz.ntmps42
    go_wp2_with fail
    refine H1.out.mono ?_
    rintro e w3 ⟨rfl, n, rfl⟩
    go_wp2
    go_ret
    exact ⟨by simp, below_drewN HB.out n⟩
end

section
open Go.RowKit Go.Shelf

theorem tints_news {w : World} {ga : Option Addr} {xs : List Int} (h : IsInts w ga xs) : ∀ ad, ga = some ad → ∀ j u, (xs.map (Value.int .i64))[j]? = some u → w.cell? (ad.add j) = some u := by
  rintro ad rfl j u hj
  rw [List.getElem?_map] at hj
  cases hx : xs[j]? with
  | none => rw [hx] at hj; cases hj
  | some v =>
    rw [hx] at hj
    have hjl := (List.getElem?_eq_some_iff.1 hx).1
    obtain ⟨b, o, h1, _, hc⟩ := h j hjl
    cases h1
    rw [Addr.add_lit, hc j hjl, List.getD_eq_getElem?_getD, hx]
    exact hj
theorem ints_none {w : World} {ga : Option Addr} {xs : List Int} (h : IsInts w ga xs) (hn : ga = none) : xs.length = 0 := by
  cases xs with
  | nil => rfl
  | cons x t => obtain ⟨b, o, h1, _⟩ := h 0 (by simp); rw [hn] at h1; cases h1
theorem town_empty {w : World} {base k : Nat} {t : TypeId} (h : w.heap[k]? = some (.cells #[] t)) (hb : base ≤ k) : w.ownsRow base t 1 (.slice (some ⟨k, 0, none⟩) 0 0) 0 [] :=
  ⟨rfl, .inr ⟨k, 0, #[], rfl, hb, h, Nat.le_refl _, Nat.zero_le _, rfl, rfl⟩⟩

theorem Twin14_ok (ga aa : Option Addr) (gc ac : Nat) (gs ps : List Int) (w : World) (hg : IsInts w ga gs) (hp : IsInts w aa ps) (hlg : gs.length ≤ 65536) (hlp : ps.length ≤ 65536) (hgn : ga = none → gc = 0) (han : aa = none → ac = 0) :
    Calls Tryz.prog 23 #[tabV ga gs.length gc aa ps.length ac] w (FreshTab w gs ps) := by
  have HG := Lib.hid hg
  have HP := Lib.hid hp
  clear hg hp
  go_enter Tryz.func23, Tryz.ntmps23
  go_wp2
  have hS : Below w.heap.size w ((w.alloc (.cells #[.slice ga gs.length gc, .slice aa ps.length ac] 31)).alloc (.cells #[.slice none 0 0, .slice none 0 0] 31)) := ((Below.refl _ w).alloc (Nat.le_refl _) _).alloc (by simp) _
  have HS0 := Lib.hid hS
  have HS := Lib.hid hS.drew
  clear hS
  generalize hw1 : (((w.alloc (.cells #[.slice ga gs.length gc, .slice aa ps.length ac] 31)).alloc (.cells #[.slice none 0 0, .slice none 0 0] 31))) = wz at *
  have f0 : wz.cell? ⟨w.heap.size, 0, none⟩ = some (.slice ga gs.length gc) := by rw [← hw1]; (exact xcw)
  have f1 : wz.cell? ⟨w.heap.size, 1, none⟩ = some (.slice aa ps.length ac) := by rw [← hw1]; (exact xcw)
  have f2 : wz.cell? ⟨w.heap.size + 1, 0, none⟩ = some (.slice none 0 0) := by rw [← hw1]; (exact xcw)
  have f3 : wz.cell? ⟨w.heap.size + 1, 1, none⟩ = some (.slice none 0 0) := by rw [← hw1]; (exact xcw)
  have f4 : wz.frozen? ⟨w.heap.size + 1, 0, none⟩ = false := by rw [← hw1]; (exact xcw)
  have f5 : wz.frozen? ⟨w.heap.size + 1, 1, none⟩ = false := by rw [← hw1]; (exact xcw)
  have fz : w.heap.size + 2 ≤ wz.heap.size := by
    rw [← hw1]; simp
  clear hw1
  have ez : wz.drew.heap.size = wz.heap.size := rfl
  have fl : w.heap.size < wz.heap.size := by omega
  have fl1 : w.heap.size + 1 < wz.heap.size := by omega
  go_region_law (first
    | (refine step_append (.tmp 3) (.tmp 5) 26 3 (.int .i64 0) 1 8 Tryz.underlying26 info_int rfl (by decide) (by decide) wz.heap.size _ 0 [] ga gs.length gc (gs.map (Value.int .i64)) (town_empty (by first | exact World.alloc_heap_new _ _ | exact (Below.heap_alloc _ _ _ (by simp)).trans (World.alloc_heap_new _ _) | (have h := World.alloc_heap_new (wz.alloc (.cells #[] 3)) (.cells #[] 3); rw [World.size_alloc] at h; exact h)) (by simp)) (by simp) (fun h => ⟨ints_none HG.out h, hgn h⟩) (tints_news (HG.out.below (by first | exact HS.out.alloc (by omega) _ | exact (HS.out.alloc (by omega) _).alloc (by simp; omega) _))) (oneCells _) (by omega) (by simp <;> omega) rfl rfl rfl rfl ?_
       intro v1 w1 ho1 hg1 hf1
       have hB1 : Below wz.heap.size wz w1 := Below.grown (by first | exact ((Below.refl _ wz).alloc (Nat.le_refl _) _).drew | exact (((Below.refl _ wz).alloc (Nat.le_refl _) _).alloc (by simp) _).drew) hg1 (by simp <;> omega) (by intro z hz; simp [Value.ownBlock] at hz; omega)
       obtain ⟨ao1, cc1, rfl, hn1, -⟩ := owns_news ho1
       have g1 : w1.cell? ⟨w.heap.size, 1, none⟩ = some (.slice aa ps.length ac) := (hB1.cell (p := ⟨w.heap.size, 1, none⟩) fl).trans f1
       have g2 : w1.cell? ⟨w.heap.size + 1, 0, none⟩ = some (.slice none 0 0) := (hB1.cell (p := ⟨w.heap.size + 1, 0, none⟩) fl1).trans f2
       have g3 : w1.cell? ⟨w.heap.size + 1, 1, none⟩ = some (.slice none 0 0) := (hB1.cell (p := ⟨w.heap.size + 1, 1, none⟩) fl1).trans f3
       have g4 : w1.frozen? ⟨w.heap.size + 1, 0, none⟩ = false := (hB1.frozen (p := ⟨w.heap.size + 1, 0, none⟩) fl1).trans f4
       have g5 : w1.frozen? ⟨w.heap.size + 1, 1, none⟩ = false := (hB1.frozen (p := ⟨w.heap.size + 1, 1, none⟩) fl1).trans f5
       simp only [Nat.zero_add, List.nil_append] at ho1 hf1
       have gz := hB1.size
       have gl : w.heap.size < w1.heap.size := by omega
       have gl1 : w.heap.size + 1 < w1.heap.size := by omega)
    | (refine step_append (.tmp 7) (.tmp 9) 26 3 (.int .i64 0) 1 8 Tryz.underlying26 info_int rfl (by decide) (by decide) wz.heap.size _ 0 [] aa ps.length ac (ps.map (Value.int .i64)) (town_empty (by first | exact World.alloc_heap_new _ _ | (refine (hg1.block _ (by simp <;> omega) (by simp [Value.ownBlock] <;> omega)).trans ?_; (first | exact World.alloc_heap_new _ _ | exact (Below.heap_alloc _ _ _ (by simp)).trans (World.alloc_heap_new _ _) | (have h := World.alloc_heap_new (wz.alloc (.cells #[] 3)) (.cells #[] 3); rw [World.size_alloc] at h; exact h)))) (by first | exact gz | simp)) (by simp) (fun h => ⟨ints_none HP.out h, han h⟩) (tints_news (by first | exact HP.out.below (HS0.out.trans (hB1.mono (by omega))) | exact (HP.out.below (HS0.out.trans (hB1.mono (by omega)))).alloc _)) (oneCells _) (by omega) (by first | exact gz | (simp <;> omega)) rfl rfl rfl rfl ?_
       intro v2 w2 ho2 hg2 hf2
       have hB2 : Below wz.heap.size wz w2 := Below.grown (by first | exact hB1 | exact hB1.alloc gz _) hg2 (by first | exact gz | (simp <;> omega)) (by intro z hz; simp [Value.ownBlock] at hz; omega)
       obtain ⟨ao2, cc2, rfl, hn2, -⟩ := owns_news ho2
       have k2 : w2.cell? ⟨w.heap.size + 1, 0, none⟩ = some (.slice none 0 0) := (hB2.cell (p := ⟨w.heap.size + 1, 0, none⟩) fl1).trans f2
       have k3 : w2.cell? ⟨w.heap.size + 1, 1, none⟩ = some (.slice none 0 0) := (hB2.cell (p := ⟨w.heap.size + 1, 1, none⟩) fl1).trans f3
       have k4 : w2.frozen? ⟨w.heap.size + 1, 0, none⟩ = false := (hB2.frozen (p := ⟨w.heap.size + 1, 0, none⟩) fl1).trans f4
       have k5 : w2.frozen? ⟨w.heap.size + 1, 1, none⟩ = false := (hB2.frozen (p := ⟨w.heap.size + 1, 1, none⟩) fl1).trans f5
       simp only [Nat.zero_add, List.nil_append] at ho2 hf2)
    | (trace_state; fail))
  all_goals
    go_wp2
    have r1 : ((w2.setCell ⟨w.heap.size + 1, 0, none⟩ (.slice ao1 gs.length cc1)).setCell ⟨w.heap.size + 1, 1, none⟩ (.slice ao2 ps.length cc2)).cell? ⟨w.heap.size + 1, 0, none⟩ = some (.slice ao1 gs.length cc1) := by
      rw [World.cell?_setCell_other _ _ _ _ (by intro e; simp at e), World.cell?_setCell_same _ _ _ k2]
    have r2 : ((w2.setCell ⟨w.heap.size + 1, 0, none⟩ (.slice ao1 gs.length cc1)).setCell ⟨w.heap.size + 1, 1, none⟩ (.slice ao2 ps.length cc2)).cell? ⟨w.heap.size + 1, 1, none⟩ = some (.slice ao2 ps.length cc2) := by
      refine World.cell?_setCell_same _ _ _ (u := .slice none 0 0) ?_
      rw [World.cell?_setCell_other _ _ _ _ (by intro e; simp at e)]; exact k3
    have hk1 := ho1.lt
    have hk2 := ho2.lt
    have hz : ∀ k, (Value.slice ao1 gs.length cc1).ownBlock = some k → w2.heap[k]? = w1.heap[k]? ∧ ∀ l, (Value.slice ao2 ps.length cc2).ownBlock = some l → k ≠ l := by
      intro k hk
      have h1 := hk1 k hk
      rcases hf1 with e | e
      all_goals
        first
          | (rw [e] at hk; simp [Value.ownBlock] at hk)
          | (have h4 := e k hk; try simp at h4)
        refine ⟨?_, fun l hl => ?_⟩
        · rw [hg2.block k (by first | exact h1.2 | (simp <;> omega)) (by simp [Value.ownBlock] <;> omega)]
          try exact Below.heap_alloc _ _ _ h1.2
        · rcases hf2 with e2 | e2
          · rw [e2] at hl; simp [Value.ownBlock] at hl; omega
          · have h5 := e2 l hl; try simp at h5
            omega
    have o1 := owns_heap (W' := ((w2.setCell ⟨w.heap.size + 1, 0, none⟩ (.slice ao1 gs.length cc1)).setCell ⟨w.heap.size + 1, 1, none⟩ (.slice ao2 ps.length cc2))) (owns_base (owns_heap ho1 (fun k hk => (hz k hk).1)) (base' := w.heap.size) (by omega)) (fun k hk => by
      have h := hk1 k hk
      rw [heap_setCell_ne _ _ _ (by show k ≠ w.heap.size + 1; omega), heap_setCell_ne _ _ _ (by show k ≠ w.heap.size + 1; omega)])
    have o2 := owns_heap (W' := ((w2.setCell ⟨w.heap.size + 1, 0, none⟩ (.slice ao1 gs.length cc1)).setCell ⟨w.heap.size + 1, 1, none⟩ (.slice ao2 ps.length cc2))) (owns_base ho2 (base' := w.heap.size) (by omega)) (fun k hk => by
      have h := hk2 k hk
      rw [heap_setCell_ne _ _ _ (by show k ≠ w.heap.size + 1; omega), heap_setCell_ne _ _ _ (by show k ≠ w.heap.size + 1; omega)])
    have hbb : Below w.heap.size w ((w2.setCell ⟨w.heap.size + 1, 0, none⟩ (.slice ao1 gs.length cc1)).setCell ⟨w.heap.size + 1, 1, none⟩ (.slice ao2 ps.length cc2)) :=
      ((HS0.out.trans (hB2.mono (by omega))).setCell (by show w.heap.size ≤ w.heap.size + 1; omega) _).setCell (by show w.heap.size ≤ w.heap.size + 1; omega) _
    exact bodyPost_ret (results_c rfl rfl (run_loadVar_two Tryz.underlying31 rfl (by kernel_rfl) r1 r2)) rfl ⟨_, _, rfl, o1, o2, fun k l h1 h2 => (hz k h1).2 l h2, hbb⟩
end
end Go.Proofs.YtjhpblejlchhjaaGreat
