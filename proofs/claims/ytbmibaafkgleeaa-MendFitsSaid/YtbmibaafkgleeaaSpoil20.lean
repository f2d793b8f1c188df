/- The walk of spoil: all that an index holds is written over. -/
import Derived.Test.YtbmibaafkgleeaaIdxFns
namespace Go.Proofs.Ytbmibaafkgleeaa
open Go.RowKit
set_option linter.unusedVariables false
set_option linter.unusedSimpArgs false

/-- a row of ints of one's own, whatever it holds -/
def OwnR20 (e : TypeId) (B : Nat) (ao : Option Addr) (n c : Nat) (w : World) : Prop := ∃ xs : List Int, xs.length = n ∧ w.ownsRow B e 1 (.slice ao n c) n (xs.map (Value.int .i64))

theorem OwnR20.form {e : TypeId} {B : Nat} {ao : Option Addr} {n c : Nat} {w : World} (h : OwnR20 e B ao n c w) {j : Nat} (hj : j < n) : ∃ g, ao = some ⟨g, 0, none⟩ ∧ B ≤ g ∧ g < w.heap.size := by
  obtain ⟨xs, hl, h1, ⟨h2, h3⟩ | ⟨g, cap, cur, hv, hg, hh, _⟩⟩ := h
  · omega
  · cases hv; exact ⟨g, rfl, hg, (Array.getElem?_eq_some_iff.1 hh).1⟩
theorem OwnR20.set {e : TypeId} {B g n c : Nat} {w : World} (h : OwnR20 e B (some ⟨g, 0, none⟩) n c w) {j : Nat} (hj : j < n) :
    (∃ v, w.cell? ⟨g, j, none⟩ = some v) ∧ w.frozen? ⟨g, j, none⟩ = false ∧ ∀ y : Int, OwnR20 e B (some ⟨g, 0, none⟩) n c (w.setCell ⟨g, j, none⟩ (.int .i64 y)) := by
  obtain ⟨xs, rfl, h1⟩ := h
  obtain ⟨⟨x, _, hx⟩, hf, hs⟩ := row_cell h1 hj
  refine ⟨⟨_, hx⟩, hf, fun y => ⟨xs.set j y, by simp, ?_⟩⟩
  have := hs y
  rw [List.length_set] at this
  exact this
theorem OwnR20.other {e : TypeId} {B : Nat} {ao : Option Addr} {n c : Nat} {w w' : World} (h : OwnR20 e B ao n c w) (hh : ∀ k, (Value.slice ao n c).ownBlock = some k → w'.heap[k]? = w.heap[k]?) : OwnR20 e B ao n c w' := by
  obtain ⟨xs, hl, h1⟩ := h
  exact ⟨xs, hl, owns_heap h1 hh⟩

theorem spoil20_ok (L : Int) (B : Nat) (va ua : Option Addr) (n vc m uc : Nat) (w : World) (hv : OwnR20 2 B va n vc w) (hu : OwnR20 3 B ua m uc w) (hne : ∀ k l, (Value.slice va n vc).ownBlock = some k → (Value.slice ua m uc).ownBlock = some l → k ≠ l) (hB : B ≤ w.heap.size) (hn : n ≤ 1000000000) (hm : m ≤ 1000000000) :
    Calls Try.prog 18 #[ixV L va n vc ua m uc] w fun e w' => (∃ v, e = .returned v) ∧ Below B w w' := by
  have HV := Lib.hid hv
  have HU := Lib.hid hu
  have HN := Lib.hid hne
  have HB0 := Lib.hid (fun k (hk : (Value.slice va n vc).ownBlock = some k) => (by obtain ⟨xs, hl, h1⟩ := hv; exact (owns_lt h1 hk).2 : k < w.heap.size))
  have HB1 := Lib.hid (fun k (hk : (Value.slice ua m uc).ownBlock = some k) => (by obtain ⟨xs, hl, h1⟩ := hu; exact (owns_lt h1 hk).2 : k < w.heap.size))
  clear hv hu hne
  go_enter Try.func18, Try.ntmps18
  go_wp2
  go_loopg [2] n (fun g i wr => ∃ k : Nat, k + g = n ∧ i = .int .i64 k ∧ Hid (OwnR20 2 B va n vc wr) ∧ Hid (OwnR20 3 B ua m uc wr) ∧ wr.cell? ⟨w.heap.size, 1, none⟩ = some (.slice va n vc) ∧ wr.cell? ⟨w.heap.size, 2, none⟩ = some (.slice ua m uc) ∧ Hid (Below B w wr))
  case atStart =>
    exact ⟨0, by omega, rfl, Lib.hid (HV.out.other fun k hk => Below.heap_alloc _ _ _ (HB0.out k hk)), Lib.hid (HU.out.other fun k hk => Below.heap_alloc _ _ _ (HB1.out k hk)), by ((try simp (disch := first | omega | (simp only [World.size_alloc] <;> omega) | fail) only [World.cell?_alloc_past, World.cell?_alloc_at, World.frozen?_alloc_past, World.frozen?_alloc_at]) <;> rfl), by ((try simp (disch := first | omega | (simp only [World.size_alloc] <;> omega) | fail) only [World.cell?_alloc_past, World.cell?_alloc_at, World.frozen?_alloc_past, World.frozen?_alloc_at]) <;> rfl), Lib.hid ((Below.refl _ w).alloc hB _)⟩
  case round =>
    obtain ⟨k, hk, rfl, HV1, HU1, hc0, hc1, HB⟩ := hrel
    by_cases hlt : k < n
    · obtain ⟨g, rfl, hg1, hg2⟩ := HV1.out.form hlt
      obtain ⟨⟨x, hx⟩, hf, hs⟩ := HV1.out.set hlt
      have hgw : g < w.heap.size := HB0.out g rfl
      have HS := Lib.hid (hs (-7))
      have HU2 := Lib.hid (HU1.out.other (w' := wr.setCell ⟨g, k, none⟩ (.int .i64 (-7))) fun l hl => heap_setCell_ne _ _ _ (by have := HN.out g l rfl hl; show l ≠ g; omega))
      clear hs
      go_wp2
      go_roundg (gk - 1)
      case measure => omega
      case rel => exact ⟨k + 1, by omega, by go_num, HS, HU2, by rw [World.cell?_setCell_other _ _ _ _ (by intro e; simp at e <;> omega)]; exact hc0, by rw [World.cell?_setCell_other _ _ _ _ (by intro e; simp at e <;> omega)]; exact hc1, Lib.hid (HB.out.setCell hg1 _)⟩
    · obtain rfl : k = n := by omega
      clear HV HV1 hk hlt
      obtain ⟨wo, rfl⟩ : ∃ wo, wr = wo := ⟨_, rfl⟩
      go_wp2
      go_loopg [3] m (fun g i wr => ∃ k : Nat, k + g = m ∧ i = .int .i64 k ∧ Hid (OwnR20 3 B ua m uc wr) ∧ wr.cell? ⟨w.heap.size, 2, none⟩ = some (.slice ua m uc) ∧ Hid (Below B w wr))
      case atStart => exact ⟨0, by omega, rfl, HU1, hc1, HB⟩
      case round =>
        obtain ⟨j, hk, rfl, HU2, hc2, HB2⟩ := hrel
        by_cases hlt : j < m
        · obtain ⟨g, rfl, hg1, hg2⟩ := HU2.out.form hlt
          obtain ⟨⟨x, hx⟩, hf, hs⟩ := HU2.out.set hlt
          have hgw : g < w.heap.size := HB1.out g rfl
          have HS := Lib.hid (hs (-7))
          clear hs
          go_wp2
          go_roundg (gk - 1)
          case measure => omega
          case rel => exact ⟨j + 1, by omega, by go_num, HS, by rw [World.cell?_setCell_other _ _ _ _ (by intro e; simp at e <;> omega)]; exact hc2, Lib.hid (HB2.out.setCell hg1 _)⟩
        · obtain rfl : j = m := by omega
          go_wp2
          exact bodyPost_end (results_none rfl _ _ _) rfl ⟨⟨_, rfl⟩, HB2.out⟩
end Go.Proofs.Ytbmibaafkgleeaa
