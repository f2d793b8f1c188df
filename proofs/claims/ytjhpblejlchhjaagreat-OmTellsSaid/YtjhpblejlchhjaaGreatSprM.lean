/- Merged: Plc, Put02, FilS, Filled, Ref08, LayW, Spr, LoadW, GapLd. -/
import Derived.Test.YtjhpblejlchhjaaGreatPrsAll
import Derived.Test.YtjhpblejlchhjaaGreatE4F
import Derived.Test.YtjhpblejlchhjaaGreatSlRef
import Derived.Test.YtjhpblejlchhjaaGreatSlTw
import Derived.Test.YtjhpblejlchhjaaGreatSlPut
import Derived.Test.YtjhpblejlchhjaaGreatInvL
import Derived.Test.YtjhpblejlchhjaaGreatGapCkA
import Derived.Test.YtjhpblejlchhjaaGreatInvFc
import Derived.Deep.CutRange
import Derived.Test.YtjhpblejlchhjaaGreatConfA
import Derived.Test.YtjhpblejlchhjaaGreatConfPl
import Derived.Test.YtjhpblejlchhjaaGreatRef09A
namespace Go.Proofs.YtjhpblejlchhjaaGreat
set_option maxRecDepth 100000
set_option maxHeartbeats 4000000
set_option linter.unusedVariables false
set_option linter.unusedSimpArgs false
section
open Go.RowKit Go.Shelf
attribute [local go_sem] Oper.semAt_some

structure PlBox (W : World) (b1 b2 b3 : Nat) (m lo hi : Nat) : Prop where
  n : W.cell? ⟨b1, 0, none⟩ = some (.int .i64 m)
  lo : W.cell? ⟨b2, 0, none⟩ = some (.int .i64 lo)
  hi : W.cell? ⟨b3, 0, none⟩ = some (.int .i64 hi)
theorem PlBox.below {W W' : World} {b1 b2 b3 m lo hi : Nat} (h : PlBox W b1 b2 b3 m lo hi) (hb : Below W.heap.size W W') : PlBox W' b1 b2 b3 m lo hi :=
  ⟨(hb.cell (World.block_lt_of_cell? _ _ h.n)).trans h.n, (hb.cell (World.block_lt_of_cell? _ _ h.lo)).trans h.lo, (hb.cell (World.block_lt_of_cell? _ _ h.hi)).trans h.hi⟩
theorem PlBox.kept {S : Nat → Prop} {W W' : World} {b1 b2 b3 m lo hi : Nat} (h : PlBox W b1 b2 b3 m lo hi) (hk : KpS S W W') (s1 : S b1) (s2 : S b2) (s3 : S b3) : PlBox W' b1 b2 b3 m lo hi :=
  ⟨hk.cell (a := ⟨b1, 0, none⟩) s1 h.n, hk.cell (a := ⟨b2, 0, none⟩) s2 h.lo, hk.cell (a := ⟨b3, 0, none⟩) s3 h.hi⟩
structure AppN (l : List Int) (B : Nat) (w : World) (k : Nat) (W : World) : Prop where
  own : ∃ v, W.cell? ⟨B, 0, none⟩ = some v ∧ W.ownsRow (B + 1) 3 1 v k ((l.take k).map (Value.int .i64))
  fz : W.frozen? ⟨B, 0, none⟩ = false
  bel : Below B w W
theorem AppN.calm {l : List Int} {B M : Nat} {w : World} {k : Nat} {W W' : World} (h : AppN l B w k W) (hc : Calm M W W') (hB : B ≤ M) : AppN l B w k W' := by
  obtain ⟨⟨v, h1, h2⟩, h3, h4⟩ := h
  exact ⟨⟨v, hc.cell h1, hc.owns h2⟩, hc.frozen h1 h3, hc.below hB h4⟩

end

section
open Go.RowKit

end

section
open Go.RowKit

structure FilS (B : Nat) (W : World) (b g1 g2 g3 g4 k1 k2 k3 k4 lw n lc : Nat) (c : SlC) : Prop where
  c0 : W.cell? ⟨b, 0, none⟩ = some (.int .i64 c.seg)
  c1 : W.cell? ⟨b, 1, none⟩ = some (.slice (some ⟨g1, 0, none⟩) lw k1)
  c2 : W.cell? ⟨b, 2, none⟩ = some (.slice (some ⟨g2, 0, none⟩) n k2)
  c3 : W.cell? ⟨b, 3, none⟩ = some (.slice (some ⟨g3, 0, none⟩) n k3)
  c4 : W.cell? ⟨b, 4, none⟩ = some (.slice (some ⟨g4, 0, none⟩) lc k4)
  c5 : W.cell? ⟨b, 5, none⟩ = some (.int .u64 c.laid)
  f1 : W.frozen? ⟨b, 1, none⟩ = false
  f5 : W.frozen? ⟨b, 5, none⟩ = false
  o1 : W.ownsRow B 27 1 (.slice (some ⟨g1, 0, none⟩) lw k1) lw (c.ws.map (Value.int .u64))
  o2 : W.ownsRow B 2 1 (.slice (some ⟨g2, 0, none⟩) n k2) n (c.ks.map (Value.int .i64))
  o3 : W.ownsRow B 2 1 (.slice (some ⟨g3, 0, none⟩) n k3) n (c.vs.map (Value.int .i64))
  o4 : W.ownsRow B 3 1 (.slice (some ⟨g4, 0, none⟩) lc k4) lc (c.cs.map (Value.int .i64))
  bB : b < B
  n23 : g2 ≠ g3
theorem owns_ne {w : World} {B g g' n n' k k' : Nat} {e e' : TypeId} {xs xs' : List Value} (ha : w.ownsRow B e 1 (.slice (some ⟨g, 0, none⟩) n k) n xs) (hb : w.ownsRow B e' 1 (.slice (some ⟨g', 0, none⟩) n' k') n' xs') (hc : e ≠ e') : g ≠ g' := by
  rcases owns_apart ha hb hc with h | h
  · cases h
  · intro hgg; exact h (by subst hgg; rfl)
section
variable {B b g1 g2 g3 g4 k1 k2 k3 k4 lw n lc : Nat} {W W' : World} {c : SlC}
theorem FilS.nums (h : FilS B W b g1 g2 g3 g4 k1 k2 k3 k4 lw n lc c) : B ≤ g1 ∧ B ≤ g2 ∧ B ≤ g3 ∧ B ≤ g4 ∧ g1 < W.heap.size ∧ g2 < W.heap.size ∧ g3 < W.heap.size ∧ g4 < W.heap.size ∧ g1 ≠ g2 ∧ g1 ≠ g3 ∧ g1 ≠ g4 ∧ g2 ≠ g4 ∧ g3 ≠ g4 ∧ b < W.heap.size :=
  ⟨(h.o1.lt g1 rfl).1, (h.o2.lt g2 rfl).1, (h.o3.lt g3 rfl).1, (h.o4.lt g4 rfl).1, (h.o1.lt g1 rfl).2, (h.o2.lt g2 rfl).2, (h.o3.lt g3 rfl).2, (h.o4.lt g4 rfl).2, owns_ne h.o1 h.o2 (by decide), owns_ne h.o1 h.o3 (by decide), owns_ne h.o1 h.o4 (by decide), owns_ne h.o2 h.o4 (by decide), owns_ne h.o3 h.o4 (by decide), World.block_lt_of_cell? _ _ h.c0⟩
theorem FilS.heap (h : FilS B W b g1 g2 g3 g4 k1 k2 k3 k4 lw n lc c) (hb : W'.heap[b]? = W.heap[b]?) (h1 : W'.heap[g1]? = W.heap[g1]?) (h2 : W'.heap[g2]? = W.heap[g2]?) (h3 : W'.heap[g3]? = W.heap[g3]?) (h4 : W'.heap[g4]? = W.heap[g4]?) : FilS B W' b g1 g2 g3 g4 k1 k2 k3 k4 lw n lc c :=
  ⟨(World.cell?_of_block (a := ⟨b, 0, none⟩) hb).trans h.c0, (World.cell?_of_block (a := ⟨b, 1, none⟩) hb).trans h.c1, (World.cell?_of_block (a := ⟨b, 2, none⟩) hb).trans h.c2, (World.cell?_of_block (a := ⟨b, 3, none⟩) hb).trans h.c3, (World.cell?_of_block (a := ⟨b, 4, none⟩) hb).trans h.c4, (World.cell?_of_block (a := ⟨b, 5, none⟩) hb).trans h.c5,
    (World.frozen?_of_block (a := ⟨b, 1, none⟩) hb).trans h.f1, (World.frozen?_of_block (a := ⟨b, 5, none⟩) hb).trans h.f5,
    owns_heap h.o1 fun j hj => by cases hj; exact h1, owns_heap h.o2 fun j hj => by cases hj; exact h2, owns_heap h.o3 fun j hj => by cases hj; exact h3, owns_heap h.o4 fun j hj => by cases hj; exact h4, h.bB, h.n23⟩
theorem FilS.below (h : FilS B W b g1 g2 g3 g4 k1 k2 k3 k4 lw n lc c) (hb : Below W.heap.size W W') : FilS B W' b g1 g2 g3 g4 k1 k2 k3 k4 lw n lc c := by
  have q := h.nums
  exact h.heap (hb.block _ (by omega)) (hb.block _ (by omega)) (hb.block _ (by omega)) (hb.block _ (by omega)) (hb.block _ (by omega))
theorem FilS.drew (h : FilS B W b g1 g2 g3 g4 k1 k2 k3 k4 lw n lc c) : FilS B W.drew b g1 g2 g3 g4 k1 k2 k3 k4 lw n lc c := h.heap rfl rfl rfl rfl rfl
theorem FilS.setV (h : FilS B W b g1 g2 g3 g4 k1 k2 k3 k4 lw n lc c) (s : Nat) (y : Int) : FilS B (W.setCell ⟨g3, s, none⟩ (.int .i64 y)) b g1 g2 g3 g4 k1 k2 k3 k4 lw n lc ⟨c.seg, c.ws, c.ks, c.vs.set s y, c.cs, c.laid⟩ := by
  have q := h.nums
  have hbB := h.bB
  have h23 := h.n23
  have hk : ∀ z, z ≠ g3 → (W.setCell ⟨g3, s, none⟩ (.int .i64 y)).heap[z]? = W.heap[z]? := fun z hz => heap_setCell_ne _ _ _ hz
  have hb := hk b (by omega)
  exact ⟨(World.cell?_of_block (a := ⟨b, 0, none⟩) hb).trans h.c0, (World.cell?_of_block (a := ⟨b, 1, none⟩) hb).trans h.c1, (World.cell?_of_block (a := ⟨b, 2, none⟩) hb).trans h.c2, (World.cell?_of_block (a := ⟨b, 3, none⟩) hb).trans h.c3, (World.cell?_of_block (a := ⟨b, 4, none⟩) hb).trans h.c4, (World.cell?_of_block (a := ⟨b, 5, none⟩) hb).trans h.c5,
    (World.frozen?_of_block (a := ⟨b, 1, none⟩) hb).trans h.f1, (World.frozen?_of_block (a := ⟨b, 5, none⟩) hb).trans h.f5,
    owns_heap h.o1 fun j hj => by cases hj; exact hk _ (by dsimp only; omega), owns_heap h.o2 fun j hj => by cases hj; exact hk _ (by dsimp only; omega), own_set h.o3 s y, owns_heap h.o4 fun j hj => by cases hj; exact hk _ (by dsimp only; omega), h.bB, h.n23⟩
theorem FilS.setL (h : FilS B W b g1 g2 g3 g4 k1 k2 k3 k4 lw n lc c) (y : Int) : FilS B (W.setCell ⟨b, 5, none⟩ (.int .u64 y)) b g1 g2 g3 g4 k1 k2 k3 k4 lw n lc ⟨c.seg, c.ws, c.ks, c.vs, c.cs, y⟩ := by
  have q := h.nums
  have hbB := h.bB
  have hk : ∀ z, z ≠ b → (W.setCell ⟨b, 5, none⟩ (.int .u64 y)).heap[z]? = W.heap[z]? := fun z hz => heap_setCell_ne _ _ _ hz
  exact ⟨set_keep (by simp) h.c0, set_keep (by simp) h.c1, set_keep (by simp) h.c2, set_keep (by simp) h.c3, set_keep (by simp) h.c4, World.cell?_setCell_same _ _ _ h.c5,
    by rw [World.frozen?_setCell]; exact h.f1, by rw [World.frozen?_setCell]; exact h.f5,
    owns_heap h.o1 fun j hj => by cases hj; exact hk _ (by dsimp only; omega), owns_heap h.o2 fun j hj => by cases hj; exact hk _ (by dsimp only; omega), owns_heap h.o3 fun j hj => by cases hj; exact hk _ (by dsimp only; omega), owns_heap h.o4 fun j hj => by cases hj; exact hk _ (by dsimp only; omega), h.bB, h.n23⟩
end
end

section
open Go.RowKit Go.Shelf
attribute [local go_sem] Oper.semAt_some

structure FilK (w w2 W : World) : Prop where
  bel : Below w.heap.size w W
  keep : ∀ q, q < w.heap.size + 2 → q ≠ w.heap.size → W.heap[q]? = w2.heap[q]?
  size : w.heap.size + 2 ≤ W.heap.size
theorem FilK.below {w w2 W W' : World} (h : FilK w w2 W) (hb : Below W.heap.size W W') : FilK w w2 W' :=
  ⟨below_via hb h.bel (by have := h.size; omega), fun q hq hne => (hb.block q (by have := h.size; omega)).trans (h.keep q hq hne), Nat.le_trans h.size hb.size⟩
theorem FilK.drew {w w2 W : World} (h : FilK w w2 W) : FilK w w2 W.drew := ⟨h.bel.drew, h.keep, h.size⟩
theorem FilK.setCell {w w2 W : World} (h : FilK w w2 W) {a : Addr} (ha : a.block = w.heap.size ∨ w.heap.size + 2 ≤ a.block) (v : Value) : FilK w w2 (W.setCell a v) :=
  ⟨h.bel.setCell (by omega) v, fun q hq hne => (heap_setCell_ne _ _ _ (by omega)).trans (h.keep q hq hne), by rw [World.size_setCell]; exact h.size⟩
end

section
open Go.RowKit Go.Shelf
attribute [local go_sem] Oper.semAt_some

end

section
open Go.RowKit Go.Shelf
attribute [local go_sem] Oper.semAt_some

end

section
open Go.RowKit

theorem gd_may {c : SlC} {S lw n lc : Nat} (h : SlGd c S lw n lc) (hS : pwB (S : Int) = true) (hM : pwB (lc : Int) = true) (hlw : lw = (n + 63) / 64) : slMay c = true := by
  have hlc1 : 1 ≤ lc := by
    rcases Nat.eq_zero_or_pos lc with e | e
    · rw [e] at hM; cases hM
    · exact e
  have h4 := h.s4
  have hn : (n : Int) / (S : Int) = lc := by
    rw [h.cn, Int.natCast_mul, Int.mul_ediv_cancel_left _ (by omega)]
  have hn2 : (n : Int) % (S : Int) = 0 := by
    rw [h.cn, Int.natCast_mul, Int.mul_emod_right]
  have hle : S * 1 ≤ S * lc := Nat.mul_le_mul_left _ hlc1
  simp only [slMay, slHead, fitB, wMayB, clrB, cntB, Bool.and_eq_true, decide_eq_true_eq, List.all_eq_true]
  rw [h.elk, h.elv, h.elw, h.elc, h.seg, hn, hn2]
  refine ⟨⟨⟨⟨⟨⟨⟨⟨⟨⟨⟨by have := h.s4; omega, by have := h.s64; omega⟩, hS⟩, by have := h.cn; omega⟩, by have := h.nm; omega⟩, rfl⟩, hM⟩, rfl⟩, hlw, ?_⟩, rfl⟩, ?_⟩, ?_⟩
  · intro i hi
    have := (List.mem_range'_1.1 hi).1
    rw [h.hi i this]
    rfl
  · intro i hi
    cases hb : bitW c.ws i with
    | true => rfl
    | false =>
      have := h.clr i hb
      simp only [Bool.false_or, Bool.and_eq_true, beq_iff_eq]
      exact this
  · intro k hk
    have := h.cnt k (List.mem_range.1 hk)
    rw [Int.toNat_natCast, this, beq_self_eq_true]
theorem gd_fit {c : SlC} {S lw n lc : Nat} (h : SlGd c S lw n lc) (hm : slMay c = true) : fitB (S : Int) n = true := by
  simp only [slMay, slHead, Bool.and_eq_true] at hm
  have := hm.1.1.1.1.1
  rwa [h.elk, h.seg] at this
def emptyL (S M : Nat) (laid : Int) : SlC := ⟨S, List.replicate ((S * M + 63) / 64) 0, List.replicate (S * M) 0, List.replicate (S * M) 0, List.replicate M 0, laid⟩
theorem emptyL_gd {S M : Nat} (h4 : 4 ≤ S) (h6 : S ≤ 64) (hM : 1 ≤ M) (hm : S * M ≤ 65536) (laid : Int) : SlGd (emptyL S M laid) S ((S * M + 63) / 64) (S * M) M := by
  have z := zero_gd h4 h6 hM hm (lw := (S * M + 63) / 64) rfl
  exact ⟨z.seg, z.elw, z.elk, z.elv, z.elc, z.s4, z.s64, z.cn, z.wn, z.n1, z.nm, z.u, z.cnt, z.hi, z.clr⟩
theorem new_nums {S M : Nat} (h4 : 4 ≤ S) (hm : S * M ≤ 65536) : (((S * M : Nat) : Int) + 63).tdiv 64 = ((S * M + 63) / 64 : Nat) ∧ ((S * M : Nat) : Int).tdiv S = M ∧ (S * M + 63) / 64 ≤ 2000 ∧ M ≤ 65536 := by
  have h9 : 1 * M ≤ S * M := Nat.mul_le_mul_right _ (by omega)
  refine ⟨?_, ?_, by omega, by omega⟩
  · rw [Int.tdiv_eq_ediv_of_nonneg (by omega)]; omega
  · rw [Int.tdiv_eq_ediv_of_nonneg (by omega), Int.natCast_mul, Int.mul_ediv_cancel_left _ (by omega)]
end

section
open Go.RowKit Go.Shelf
attribute [local go_sem] Oper.semAt_some

end

section
open Go.RowKit

theorem gap_zero {c : Cfg} {s : SlC} (h : gapE c s = 0) : cfMay c = true ∧ ∃ a H, GapN c s a H ∧ s.seg = c.seg ∧ sumC s.cs 0 s.cs.length ≤ c.most ∧ denB c s H = true := by
  unfold gapE at h
  split at h
  · rename_i hc
    split at h
    · rename_i hg
      have hg' := hg
      simp only [gapMay, gapHead, Bool.and_eq_true, decide_eq_true_eq] at hg
      obtain ⟨⟨⟨⟨h1, h2⟩, h3⟩, h4⟩, h5⟩ := hg
      obtain ⟨a, H, k⟩ := gapN_of hc h3 h1 h2
      exact ⟨hc, a, H, k, h2, h4, by rw [← k.cap.hgt]; exact h5⟩
    · cases h
  · cases h
def nilC : SlC := ⟨0, [], [], [], [], 0⟩
theorem gapN_gd {c : Cfg} {s : SlC} {a H : Nat} (k : GapN c s a H) (hu : U64s s.ws) : SlGd s (2 ^ a) ((s.ks.length + 63) / 64) s.ks.length (2 ^ H) ∧ (s.ks.length + 63) / 64 ≤ 2000 := by
  obtain ⟨S, M, g, -, -, -⟩ := slMay_gd hu k.may
  have e1 : S = 2 ^ a := by have := g.seg; have := k.seg; omega
  have e2 : M = 2 ^ H := by have := g.elc; have := k.nc; omega
  have e3 := g.elk
  subst e1 e2
  have hb := k.cap.big
  rw [← e3] at g
  have := k.nk
  exact ⟨g, by omega⟩
end
end Go.Proofs.YtjhpblejlchhjaaGreat
