/- Small facts on lists, worlds and owned rows, used by the walks of this seat. No function of the program is walked here. -/
import Derived.Test.YtbmibaafkgleeaaMem
namespace Go.Proofs.Ytbmibaafkgleeaa
open Go.RowKit

theorem ret_int {k : IntKind} {a b : Int} (h : a = b) : Ending.returned (.int k a) = .returned (.int k b) := by rw [h]

/-- a slice of ints that is read -/
def IsInts (w : World) (a : Option Addr) (xs : List Int) : Prop :=
  ∀ i, i < xs.length → ∃ b off, a = some ⟨b, off, none⟩ ∧ b < w.heap.size ∧ ∀ j, j < xs.length → w.cell? ⟨b, off + j, none⟩ = some (.int .i64 (xs.getD j 0))

theorem IsInts.below {w w' : World} {a : Option Addr} {xs : List Int} (h : IsInts w a xs) (hb : Below w.heap.size w w') : IsInts w' a xs := by
  intro i hi
  obtain ⟨b, off, ha, hlt, hc⟩ := h i hi
  exact ⟨b, off, ha, Nat.lt_of_lt_of_le hlt hb.size, fun j hj => (hb.cell (p := ⟨b, off + j, none⟩) hlt).trans (hc j hj)⟩

theorem IsInts.setCell {w : World} {a : Option Addr} {xs : List Int} (h : IsInts w a xs) {p : Addr} (hne : ∀ x, a = some x → x.block ≠ p.block) (v : Value) : IsInts (w.setCell p v) a xs := by
  intro i hi
  obtain ⟨b, off, ha, hlt, hc⟩ := h i hi
  refine ⟨b, off, ha, by simpa using hlt, fun j hj => ?_⟩
  rw [World.cell?_setCell_other]
  · exact hc j hj
  · intro e
    exact hne _ ha (by rw [e])

/-- one element, behind a name of its own -/
theorem IsInts.get {w : World} {a : Option Addr} {xs : List Int} (h : IsInts w a xs) {k : Nat} (hk : k < xs.length) :
    ∃ b off x, a = some ⟨b, off, none⟩ ∧ Hid (xs.getD k 0 = x) ∧ w.cell? ⟨b, off + k, none⟩ = some (.int .i64 x) ∧ b < w.heap.size := by
  obtain ⟨b, off, ha, hlt, hc⟩ := h k hk
  exact ⟨b, off, _, ha, Lib.hid rfl, hc k hk, hlt⟩

/-- an owned row of ints, read -/
theorem ints_of_owns {w : World} {B : Nat} {v : Value} {xs : List Int} (h : w.ownsRow B 3 1 v xs.length (xs.map (Value.int .i64))) :
    ∃ a cap, v = .slice a xs.length cap ∧ IsInts w a xs ∧ (∀ x, a = some x → B ≤ x.block ∧ x.off = 0 ∧ x.spot = none) ∧ (a = none → xs = [] ∧ cap = 0) := by
  obtain ⟨h1, ⟨rfl, hn⟩ | ⟨g, cap, cur, rfl, hg, hh, hn, hm, hs, ht⟩⟩ := h
  · refine ⟨none, 0, by rw [hn], fun i hi => by omega, fun x hx => (by cases hx), fun _ => ⟨List.eq_nil_of_length_eq_zero hn, rfl⟩⟩
  · refine ⟨some ⟨g, 0, none⟩, cap, rfl, fun i hi => ⟨g, 0, rfl, (Array.getElem?_eq_some_iff.1 hh).1, fun j hj => ?_⟩, fun x hx => (by cases hx; exact ⟨hg, rfl, rfl⟩), fun hx => (by cases hx)⟩
    have := World.ownsRow.cellAt (w := w) (base := B) (e := 3) (size := 1) (xs := xs.map (Value.int .i64)) ⟨h1, .inr ⟨g, cap, cur, rfl, hg, hh, hn, hm, hs, ht⟩⟩ j (by omega)
    rw [Nat.zero_add, this, List.getElem?_map, List.getElem?_eq_getElem hj]
    simp [List.getD_eq_getElem?_getD, hj]
theorem info_int : (Try.prog.info? 3).map (fun i => (i.zero, i.size, i.bytes)) = some (some (.int .i64 0), 1, 8) := by kernel_rfl

theorem owns_some {w : World} {B : Nat} {e : TypeId} {v : Value} {n : Nat} {xs : List Value} (h : w.ownsRow B e 1 v n xs) (hn : 0 < n) :
    ∃ g cap, v = .slice (some ⟨g, 0, none⟩) n cap ∧ B ≤ g ∧ ∀ j u, xs[j]? = some u → w.cell? ((⟨g, 0, none⟩ : Addr).add j) = some u := by
  have h0 := h
  obtain ⟨h1, ⟨rfl, h2⟩ | ⟨g, cap, cur, rfl, hg, hh, hn', hm, hs, ht⟩⟩ := h
  · omega
  · exact ⟨g, cap, rfl, hg, World.ownsRow.cells h0 rfl⟩

theorem oneCells (l : List Int) : ∀ u ∈ l.map (Value.int .i64), u.oneCell' = true := ints_oneCell .i64 l

/-- the predicate of a call that hands back a new row of ints and leaves all that was there alone -/
def FreshInts (w : World) (xs : List Int) (e : Ending) (w' : World) : Prop :=
  ∃ v, e = .returned v ∧ w'.ownsRow w.heap.size 3 1 v xs.length (xs.map (Value.int .i64)) ∧ Below w.heap.size w w'

/-- 'append(xs, ys...)': ints onto a row of the call's own, the source's cells lie at the address ad -/
theorem wpl_append_ints {w : World} {ops : Array Oper} {rest : List Oper} {o : Oper} {a : Act} {Q : Exit → Act → World → Prop} (s x : Operand)
    (B : Nat) (v : Value) (xs : List Int) (ad : Addr) (c : Nat) (ys : List Int)
    (hown : w.ownsRow B 3 1 v xs.length (xs.map (Value.int .i64)))
    (hnews : ∀ j u, (ys.map (Value.int .i64))[j]? = some u → w.cell? (ad.add j) = some u)
    (hlen : xs.length + ys.length ≤ 4294967296) (hbase : B ≤ w.heap.size)
    (hgd : o.guard = none) (ho : o.op = .call { callee := .builtin .append, args := #[s, x], argTypes := #[23, 23] })
    (hs : a.eval s = v) (hx : a.eval x = .slice (some ad) ys.length c)
    (h : ∀ v' w', w'.ownsRow B 3 1 v' (xs ++ ys).length ((xs ++ ys).map (Value.int .i64)) → w.grownBy w' v.ownBlock → wpList Try.prog ops Q rest (a.put o.dst v') w') :
    wpList Try.prog ops Q (o :: rest) a w := by
  obtain ⟨i0, hi, hz0, hz1, hz2⟩ := info_parts info_int
  refine wpList_append_own w hgd s x 23 ho B 3 i0 (.int .i64 0) 1 8 Try.underlying23 hi hz0 hz1 hz2 rfl (by decide) v xs.length _ hs hown ad ys.length c (ys.map (Value.int .i64)) hx (by simp) hnews (oneCells ys) ?_ ?_ hbase ?_
  · unfold maxLen; omega
  · omega
  · intro v' w' h2 h3 _
    refine h v' w' ?_ h3
    rw [List.length_append, List.map_append]
    exact h2

/-- 'make([]int, n)' -/
theorem wpl_make_ints {w : World} {ops : Array Oper} {rest : List Oper} {o : Oper} {a : Act} {Q : Exit → Act → World → Prop} (l c : Operand)
    (B n : Nat) (N : Int) (hN : N = n) (hlen : n ≤ 4294967296) (hbase : B ≤ w.heap.size)
    (hgd : o.guard = none) (ho : o.op = Op.makeSlice 23 l c) (hl : a.eval l = .int .i64 N) (hc : a.eval c = .int .i64 N)
    (h : ∀ g w', B ≤ g → w'.ownsRow B 3 1 (.slice (some ⟨g, 0, none⟩) n n) (List.replicate n (0 : Int)).length ((List.replicate n (0 : Int)).map (Value.int .i64)) → Below w.heap.size w w' →
      wpList Try.prog ops Q rest (a.put o.dst (.slice (some ⟨g, 0, none⟩) n n)) w') :
    wpList Try.prog ops Q (o :: rest) a w := by
  obtain ⟨i0, hi, hz0, hz1, hz2⟩ := info_parts info_int
  refine wpList_make_full w hgd l c 23 ho B 3 i0 (.int .i64 0) 1 Try.underlying23 hi hz0 hz1 .i64 .i64 N N n hl hc hN hN (by rw [hz2]; omega) (by unfold maxLen; omega) hbase ?_
  intro w' h1 h2
  refine h w.heap.size w' hbase ?_ ((Below.refl _ _).grown h2 (Nat.le_refl _) (fun k hk => by cases hk))
  rw [List.length_replicate, List.map_replicate]
  have e : (madeCells (Value.int .i64 0).cells (n * 1)).toList = List.replicate n (Value.int .i64 0) := by rw [Nat.mul_one]; exact toList_madeCells_one _ _
  rw [e] at h1
  exact h1

/-- one cell of an owned row of ints: it reads, it may be written, and what the row is then -/
theorem ints_cell {w : World} {B g n cap : Nat} {xs : List Int} (h : w.ownsRow B 3 1 (.slice (some ⟨g, 0, none⟩) n cap) xs.length (xs.map (Value.int .i64))) {j : Nat} (hj : j < xs.length) :
    (∃ x, Hid (xs.getD j 0 = x) ∧ w.cell? ⟨g, j, none⟩ = some (.int .i64 x)) ∧ w.frozen? ⟨g, j, none⟩ = false ∧
    ∀ y : Int, (w.setCell ⟨g, j, none⟩ (.int .i64 y)).ownsRow B 3 1 (.slice (some ⟨g, 0, none⟩) n cap) (xs.set j y).length ((xs.set j y).map (Value.int .i64)) := by
  have hn : n = xs.length := by
    obtain ⟨_, ⟨hv, _⟩ | ⟨_, _, _, hv, _⟩⟩ := h
    · cases hv
    · cases hv; rfl
  subst hn
  refine ⟨⟨_, Lib.hid rfl, ?_⟩, h.frozenAt j, fun y => ?_⟩
  · rw [h.cellAt j (by omega), List.getElem?_map, List.getElem?_eq_getElem hj]
    simp [List.getD_eq_getElem?_getD, hj]
  · have := h.stored j (.int .i64 y)
    rw [List.length_set, List.map_set]
    exact this.1


/-- numbers as ints -/
def ints (l : List Nat) : List Int := List.map (fun n : Nat => (n : Int)) l
theorem ints_length (l : List Nat) : (ints l).length = l.length := by simp [ints]
theorem ints_append (a b : List Nat) : ints (a ++ b) = ints a ++ ints b := by simp [ints]
theorem getD_ints (l : List Nat) (k : Nat) : (ints l).getD k 0 = ((l.getD k 0 : Nat) : Int) := by
  simp [ints, List.getD_eq_getElem?_getD]
  cases l[k]? <;> simp

/-- an owned row as the source of an append -/
theorem owns_news {w : World} {B : Nat} {e : TypeId} {s : Nat} {v : Value} {n : Nat} {xs : List Value} (h : w.ownsRow B e s v n xs) :
    ∃ ao c, v = .slice ao n c ∧ (ao = none → n = 0 ∧ c = 0) ∧ ∀ ad, ao = some ad → ∀ j u, xs[j]? = some u → w.cell? (ad.add j) = some u := by
  have h0 := h
  obtain ⟨h1, ⟨rfl, h2⟩ | ⟨g, cap, cur, rfl, hg, hh, hn', hm, hs, ht⟩⟩ := h
  · exact ⟨none, 0, by rw [h2], fun _ => ⟨h2, rfl⟩, fun ad had => by cases had⟩
  · exact ⟨some ⟨g, 0, none⟩, cap, rfl, fun hx => (by cases hx), fun ad had => (by cases had; exact World.ownsRow.cells h0 rfl)⟩
end Go.Proofs.Ytbmibaafkgleeaa
