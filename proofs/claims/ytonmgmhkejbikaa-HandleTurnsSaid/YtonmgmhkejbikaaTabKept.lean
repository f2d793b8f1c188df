/- spoil turns a table's own rows alone. -/
import Derived.Test.YtonmgmhkejbikaaTabSpoil
import Derived.Test.YtonmgmhkejbikaaTabOwn
namespace Go.Proofs.Ytonmgmhkejbikaa
open Go.RowKit Go.Shelf
set_option linter.unusedVariables false
set_option linter.unusedSimpArgs false

/-- what was there is as it was, but for blocks from B up to M -/
structure Kept (B M : Nat) (w w' : World) : Prop where
  os : w'.os = w.os
  tape : w'.tape = w.tape
  output : w'.output = w.output
  size : w.heap.size ≤ w'.heap.size
  block : ∀ k, k < w.heap.size → (k < B ∨ M ≤ k) → w'.heap[k]? = w.heap[k]?
theorem Kept.refl (B M : Nat) (w : World) : Kept B M w w := ⟨rfl, rfl, rfl, Nat.le_refl _, fun _ _ _ => rfl⟩
theorem Kept.alloc {B M : Nat} {w w' : World} (h : Kept B M w w') (o : Obj) : Kept B M w (w'.alloc o) :=
  ⟨h.os, h.tape, h.output, Nat.le_trans h.size (by simp), fun k hk hn => (Below.heap_alloc _ _ _ (Nat.lt_of_lt_of_le hk h.size)).trans (h.block k hk hn)⟩
theorem Kept.setCell {B M : Nat} {w w' : World} (h : Kept B M w w') {p : Addr} (hp : B ≤ p.block ∧ p.block < M) (x : Value) : Kept B M w (w'.setCell p x) :=
  ⟨h.os, h.tape, h.output, by simpa using h.size, fun k hk hn => (heap_setCell_ne _ _ _ (by omega)).trans (h.block k hk hn)⟩
theorem Kept.below {B M : Nat} {w w' : World} (h : Kept B M w w') (hB : B ≤ w.heap.size) {n : Nat} (hn : n ≤ B) : Below n w w' :=
  ⟨h.os, h.tape, h.output, h.size, fun k hk => h.block k (by omega) (.inl (by omega))⟩
theorem Kept.cell {B M : Nat} {w w' : World} (h : Kept B M w w') {p : Addr} {v : Value} (hc : w.cell? p = some v) (hp : p.block < B ∨ M ≤ p.block) : w'.cell? p = some v := by
  rw [World.cell?_of_block (w := w) (h.block _ (World.block_lt_of_cell? w _ hc) hp)]; exact hc
theorem Kept.ints {B M : Nat} {w w' : World} (h : Kept B M w w') {a : Option Addr} {xs : List Int} (hi : IsInts w a xs) (hp : ∀ x, a = some x → x.block < B ∨ M ≤ x.block) : IsInts w' a xs := by
  intro i hl
  obtain ⟨b, off, ha, hlt, hc⟩ := hi i hl
  exact ⟨b, off, ha, Nat.lt_of_lt_of_le hlt h.size, fun j hj => h.cell (hc j hj) (show b < B ∨ M ≤ b from hp _ ha)⟩
theorem Kept.own {B M B' M' : Nat} {w w' : World} (h : Kept B M w w') {v u : Value} {gs ps : List Int} (ho : OwnTab B' M' w v u gs ps) (hp : M' ≤ B ∨ M ≤ B') (hM : M' ≤ w.heap.size) : OwnTab B' M' w' v u gs ps :=
  ho.heap fun k h1 h2 => h.block k (by omega) (by omega)

theorem spoil_kept (B M : Nat) (va ua : Option Addr) (vc uc : Nat) (gs ps : List Int) (w : World) (ho : OwnTab B M w (.slice va gs.length vc) (.slice ua ps.length uc) gs ps) (hM : M ≤ w.heap.size) (hn : gs.length ≤ 1000000000) (hm : ps.length ≤ 1000000000) :
    Calls Try.prog 19 #[tabV va gs.length vc ua ps.length uc] w fun e w' => (∃ v, e = .returned v) ∧ Kept B M w w' := by
  have hv : OwnN B va gs.length vc w := ⟨gs, rfl, ho.g⟩
  have hu : OwnN B ua ps.length uc w := ⟨ps, rfl, ho.p⟩
  have HV := Lib.hid hv
  have HU := Lib.hid hu
  have HN := Lib.hid ho.ne
  have HB0 := Lib.hid (fun k (hk : (Value.slice va gs.length vc).ownBlock = some k) => And.intro (ho.g.lt k hk).1 (ho.gm k hk))
  have HB1 := Lib.hid (fun k (hk : (Value.slice ua ps.length uc).ownBlock = some k) => And.intro (ho.p.lt k hk).1 (ho.pm k hk))
  generalize gs.length = n at *
  generalize ps.length = m at *
  clear ho hv hu
  go_enter Try.func19, Try.ntmps19
  go_wp2
  go_loopg [2] n (fun g i wr => ∃ k : Nat, k + g = n ∧ i = .int .i64 k ∧ Hid (OwnN B va n vc wr) ∧ Hid (OwnN B ua m uc wr) ∧ wr.cell? ⟨w.heap.size, 0, none⟩ = some (.slice va n vc) ∧ wr.cell? ⟨w.heap.size, 1, none⟩ = some (.slice ua m uc) ∧ Hid (Kept B M w wr))
  case atStart =>
    exact ⟨0, by omega, rfl, Lib.hid (HV.out.other fun k hk => Below.heap_alloc _ _ _ (by have := HB0.out k hk; omega)), Lib.hid (HU.out.other fun k hk => Below.heap_alloc _ _ _ (by have := HB1.out k hk; omega)), by ((try simp (disch := first | omega | (simp only [World.size_alloc] <;> omega) | fail) only [World.cell?_alloc_past, World.cell?_alloc_at, World.frozen?_alloc_past, World.frozen?_alloc_at]) <;> rfl), by ((try simp (disch := first | omega | (simp only [World.size_alloc] <;> omega) | fail) only [World.cell?_alloc_past, World.cell?_alloc_at, World.frozen?_alloc_past, World.frozen?_alloc_at]) <;> rfl), Lib.hid ((Kept.refl _ _ w).alloc _)⟩
  case round =>
    obtain ⟨k, hk, rfl, HV1, HU1, hc0, hc1, HB⟩ := hrel
    by_cases hlt : k < n
    · obtain ⟨g, rfl, hg1, hg2⟩ := HV1.out.form hlt
      obtain ⟨⟨x, hx⟩, hf, hs⟩ := HV1.out.set hlt
      have hgM : g < M := (HB0.out g rfl).2
      have HS := Lib.hid (hs (-7))
      have HU2 := Lib.hid (HU1.out.other (w' := wr.setCell ⟨g, k, none⟩ (.int .i64 (-7))) fun l hl => heap_setCell_ne _ _ _ (by have := HN.out g l rfl hl; show l ≠ g; omega))
      clear hs
      go_wp2
      go_roundg (gk - 1)
      case measure => omega
      case rel => exact ⟨k + 1, by omega, by go_num, HS, HU2, cell_setCell_block hc0 (by dsimp only; omega), cell_setCell_block hc1 (by dsimp only; omega), Lib.hid (HB.out.setCell ⟨hg1, hgM⟩ _)⟩
    · obtain rfl : k = n := by omega
      clear HV HV1 hk hlt
      obtain ⟨wo, rfl⟩ : ∃ wo, wr = wo := ⟨_, rfl⟩
      go_wp2
      go_loopg [3] m (fun g i wr => ∃ k : Nat, k + g = m ∧ i = .int .i64 k ∧ Hid (OwnN B ua m uc wr) ∧ wr.cell? ⟨w.heap.size, 1, none⟩ = some (.slice ua m uc) ∧ Hid (Kept B M w wr))
      case atStart => exact ⟨0, by omega, rfl, HU1, hc1, HB⟩
      case round =>
        obtain ⟨j, hk, rfl, HU2, hc2, HB2⟩ := hrel
        by_cases hlt : j < m
        · obtain ⟨g, rfl, hg1, hg2⟩ := HU2.out.form hlt
          obtain ⟨⟨x, hx⟩, hf, hs⟩ := HU2.out.set hlt
          have hgM : g < M := (HB1.out g rfl).2
          have HS := Lib.hid (hs (-7))
          clear hs
          go_wp2
          go_roundg (gk - 1)
          case measure => omega
          case rel => exact ⟨j + 1, by omega, by go_num, HS, cell_setCell_block hc2 (by dsimp only; omega), Lib.hid (HB2.out.setCell ⟨hg1, hgM⟩ _)⟩
        · obtain rfl : j = m := by omega
          go_wp2
          exact bodyPost_end (results_none rfl _ _ _) rfl ⟨⟨_, rfl⟩, HB2.out⟩
end Go.Proofs.Ytonmgmhkejbikaa
