/- The walk of spoil: all that a gapped array holds is written over. -/
import Derived.Test.YtookgoidlnlckaaSlTw
namespace Go.Proofs.Ytookgoidlnlckaa
open Go.RowKit
set_option linter.unusedVariables false
set_option linter.unusedSimpArgs false

/-- a row of numbers of one's own, whatever it holds -/
def OwnK (k : IntKind) (e : TypeId) (B : Nat) (ao : Option Addr) (n c : Nat) (w : World) : Prop := ∃ xs : List Int, xs.length = n ∧ w.ownsRow B e 1 (.slice ao n c) n (xs.map (Value.int k))
theorem OwnK.form {k : IntKind} {e : TypeId} {B : Nat} {ao : Option Addr} {n c : Nat} {w : World} (h : OwnK k e B ao n c w) {j : Nat} (hj : j < n) : ∃ g, ao = some ⟨g, 0, none⟩ ∧ B ≤ g ∧ g < w.heap.size := by
  obtain ⟨xs, hl, h1, ⟨h2, h3⟩ | ⟨g, cap, cur, hv, hg, hh, _⟩⟩ := h
  · omega
  · cases hv; exact ⟨g, rfl, hg, (Array.getElem?_eq_some_iff.1 hh).1⟩
theorem OwnK.set {k : IntKind} {e : TypeId} {B g n c : Nat} {w : World} (h : OwnK k e B (some ⟨g, 0, none⟩) n c w) {j : Nat} (hj : j < n) :
    (∃ v, w.cell? ⟨g, j, none⟩ = some v) ∧ w.frozen? ⟨g, j, none⟩ = false ∧ ∀ y : Int, OwnK k e B (some ⟨g, 0, none⟩) n c (w.setCell ⟨g, j, none⟩ (.int k y)) := by
  obtain ⟨xs, rfl, h1⟩ := h
  obtain ⟨⟨x, _, hx⟩, hf, hs⟩ := row_cell h1 hj
  refine ⟨⟨_, hx⟩, hf, fun y => ⟨xs.set j y, by simp, ?_⟩⟩
  have := hs y
  rw [List.length_set] at this
  exact this
theorem OwnK.other {k : IntKind} {e : TypeId} {B : Nat} {ao : Option Addr} {n c : Nat} {w w' : World} (h : OwnK k e B ao n c w) (hh : ∀ k, (Value.slice ao n c).ownBlock = some k → w'.heap[k]? = w.heap[k]?) : OwnK k e B ao n c w' := by
  obtain ⟨xs, hl, h1⟩ := h
  exact ⟨xs, hl, owns_heap h1 hh⟩
theorem OwnK.apart {k k' : IntKind} {e e' : TypeId} {B B' : Nat} {ao bo : Option Addr} {n c m d : Nat} {w : World} (h : OwnK k e B ao n c w) (h' : OwnK k' e' B' bo m d w) (hne : e ≠ e') : ∀ p q, (Value.slice ao n c).ownBlock = some p → (Value.slice bo m d).ownBlock = some q → p ≠ q := by
  obtain ⟨xs, hl, h1⟩ := h
  obtain ⟨ys, hm, h2⟩ := h'
  intro p q hp hq e
  rcases owns_apart h1 h2 hne with h | h
  · rw [h] at hp; cases hp
  · exact h (by rw [hp, hq, e])
theorem OwnK.lt {k : IntKind} {e : TypeId} {B : Nat} {ao : Option Addr} {n c : Nat} {w : World} (h : OwnK k e B ao n c w) : ∀ p, (Value.slice ao n c).ownBlock = some p → p < w.heap.size := by
  obtain ⟨xs, hl, h1⟩ := h
  exact fun p hp => (owns_lt h1 hp).2
set_option maxHeartbeats 1000000 in
theorem spoil09_ok (seg laid : Int) (B : Nat) (wa ka va ca : Option Addr) (lw wc n kc lv vc lc cc : Nat) (w : World) (hw : OwnK .u64 27 B wa lw wc w) (hk : OwnK .i64 2 B ka n kc w) (hc : OwnK .i64 3 B ca lc cc w) (hB : B ≤ w.heap.size) (hn : n ≤ 1000000000) (hm : lw ≤ 1000000000) (hl : lc ≤ 1000000000) :
    Calls Try.prog 9 #[.agg #[.int .i64 seg, .slice wa lw wc, .slice ka n kc, .slice va lv vc, .slice ca lc cc, .int .u64 laid]] w fun e w' => (∃ v, e = .returned v) ∧ Below B w w' := by
  have HW := Lib.hid hw
  have HK := Lib.hid hk
  have HC := Lib.hid hc
  have HKW := Lib.hid (hk.apart hw (by decide))
  have HKC := Lib.hid (hk.apart hc (by decide))
  have HWC := Lib.hid (hw.apart hc (by decide))
  have L1 := Lib.hid hw.lt
  have L2 := Lib.hid hk.lt
  have L3 := Lib.hid hc.lt
  clear hw hk hc
  go_enter Try.func9, Try.ntmps9
  go_wp2
  go_loopg [2] n (fun g i wr => ∃ k : Nat, k + g = n ∧ i = .int .i64 k ∧ Hid (OwnK .i64 2 B ka n kc wr) ∧ Hid (OwnK .u64 27 B wa lw wc wr) ∧ Hid (OwnK .i64 3 B ca lc cc wr) ∧ wr.cell? ⟨w.heap.size, 1, none⟩ = some (.slice wa lw wc) ∧ wr.cell? ⟨w.heap.size, 2, none⟩ = some (.slice ka n kc) ∧ wr.cell? ⟨w.heap.size, 4, none⟩ = some (.slice ca lc cc) ∧ Hid (Below B w wr))
  case atStart =>
    exact ⟨0, by omega, rfl, Lib.hid (HK.out.other fun k hk => Below.heap_alloc _ _ _ (L2.out k hk)), Lib.hid (HW.out.other fun k hk => Below.heap_alloc _ _ _ (L1.out k hk)), Lib.hid (HC.out.other fun k hk => Below.heap_alloc _ _ _ (L3.out k hk)), by ((try simp (disch := first | omega | (simp only [szW] <;> omega) | fail) only [ceW]) <;> rfl), by ((try simp (disch := first | omega | (simp only [szW] <;> omega) | fail) only [ceW]) <;> rfl), by ((try simp (disch := first | omega | (simp only [szW] <;> omega) | fail) only [ceW]) <;> rfl), Lib.hid ((Below.refl _ w).alloc hB _)⟩
  case round =>
    obtain ⟨k, hk, rfl, HK1, HW1, HC1, hc1, hc2, hc4, HB⟩ := hrel
    by_cases hlt : k < n
    · obtain ⟨g, rfl, hg1, hg2⟩ := HK1.out.form hlt
      obtain ⟨⟨x, hx⟩, hf, hs⟩ := HK1.out.set hlt
      have hgw : g < w.heap.size := L2.out g rfl
      have HS := Lib.hid (hs (-7))
      have HW2 := Lib.hid (HW1.out.other (w' := wr.setCell ⟨g, k, none⟩ (.int .i64 (-7))) fun l hl => heap_setCell_ne _ _ _ (by have := HKW.out g l rfl hl; show l ≠ g; omega))
      have HC2 := Lib.hid (HC1.out.other (w' := wr.setCell ⟨g, k, none⟩ (.int .i64 (-7))) fun l hl => heap_setCell_ne _ _ _ (by have := HKC.out g l rfl hl; show l ≠ g; omega))
      clear hs
      go_wp2
      go_roundg (gk - 1)
      case measure => omega
      case rel => exact ⟨k + 1, by omega, by go_num, HS, HW2, HC2, by rw [World.cell?_setCell_other _ _ _ _ (by intro e; simp at e <;> omega)]; exact hc1, by rw [World.cell?_setCell_other _ _ _ _ (by intro e; simp at e <;> omega)]; exact hc2, by rw [World.cell?_setCell_other _ _ _ _ (by intro e; simp at e <;> omega)]; exact hc4, Lib.hid (HB.out.setCell hg1 _)⟩
    · obtain rfl : k = n := by omega
      clear HK HK1 hk hlt HKW HKC
      obtain ⟨wo, rfl⟩ : ∃ wo, wr = wo := ⟨_, rfl⟩
      go_wp2
      go_loopg [3] lw (fun g i wr => ∃ k : Nat, k + g = lw ∧ i = .int .i64 k ∧ Hid (OwnK .u64 27 B wa lw wc wr) ∧ Hid (OwnK .i64 3 B ca lc cc wr) ∧ wr.cell? ⟨w.heap.size, 1, none⟩ = some (.slice wa lw wc) ∧ wr.cell? ⟨w.heap.size, 4, none⟩ = some (.slice ca lc cc) ∧ Hid (Below B w wr))
      case atStart => exact ⟨0, by omega, rfl, HW1, HC1, hc1, hc4, HB⟩
      case round =>
        obtain ⟨j, hj, rfl, HW2, HC2, hd1, hd4, HB2⟩ := hrel
        by_cases hlt : j < lw
        · obtain ⟨g, rfl, hg1, hg2⟩ := HW2.out.form hlt
          obtain ⟨⟨x, hx⟩, hf, hs⟩ := HW2.out.set hlt
          have hgw : g < w.heap.size := L1.out g rfl
          have HS := Lib.hid (hs 7)
          have HC3 := Lib.hid (HC2.out.other (w' := wr.setCell ⟨g, j, none⟩ (.int .u64 7)) fun l hl => heap_setCell_ne _ _ _ (by have := HWC.out g l rfl hl; show l ≠ g; omega))
          clear hs
          go_wp2
          go_roundg (gk - 1)
          case measure => omega
          case rel => exact ⟨j + 1, by omega, by go_num, HS, HC3, by rw [World.cell?_setCell_other _ _ _ _ (by intro e; simp at e <;> omega)]; exact hd1, by rw [World.cell?_setCell_other _ _ _ _ (by intro e; simp at e <;> omega)]; exact hd4, Lib.hid (HB2.out.setCell hg1 _)⟩
        · obtain rfl : j = lw := by omega
          clear HW HW1 HW2 HWC
          obtain ⟨wo2, rfl⟩ : ∃ wo, wr = wo := ⟨_, rfl⟩
          go_wp2
          go_loopg [4] lc (fun g i wr => ∃ k : Nat, k + g = lc ∧ i = .int .i64 k ∧ Hid (OwnK .i64 3 B ca lc cc wr) ∧ wr.cell? ⟨w.heap.size, 4, none⟩ = some (.slice ca lc cc) ∧ Hid (Below B w wr))
          case atStart => exact ⟨0, by omega, rfl, HC2, hd4, HB2⟩
          case round =>
            obtain ⟨i, hi, rfl, HC4, he4, HB4⟩ := hrel
            by_cases hlt : i < lc
            · obtain ⟨g, rfl, hg1, hg2⟩ := HC4.out.form hlt
              obtain ⟨⟨x, hx⟩, hf, hs⟩ := HC4.out.set hlt
              have hgw : g < w.heap.size := L3.out g rfl
              have HS := Lib.hid (hs (-7))
              clear hs
              go_wp2
              go_roundg (gk - 1)
              case measure => omega
              case rel => exact ⟨i + 1, by omega, by go_num, HS, by rw [World.cell?_setCell_other _ _ _ _ (by intro e; simp at e <;> omega)]; exact he4, Lib.hid (HB4.out.setCell hg1 _)⟩
            · obtain rfl : i = lc := by omega
              go_wp2
              exact bodyPost_end (results_none rfl _ _ _) rfl ⟨⟨_, rfl⟩, HB4.out⟩
end Go.Proofs.Ytookgoidlnlckaa
