/- Merged: Row, RowIx. -/
import Derived.Test.YtbmibaafkgleeaaInvFc
import Derived.Test.YtbmibaafkgleeaaStep
import Derived.BigRegion
import Derived.Lib.SliceRun
namespace Go.Proofs.Ytbmibaafkgleeaa
set_option linter.unusedVariables false
set_option linter.unusedSimpArgs false
section
open Go.RowKit

/-- a slice of numbers of a kind that is read -/
def IsRow (k : IntKind) (w : World) (a : Option Addr) (xs : List Int) : Prop :=
  ∀ i, i < xs.length → ∃ b off, a = some ⟨b, off, none⟩ ∧ b < w.heap.size ∧ ∀ j, j < xs.length → w.cell? ⟨b, off + j, none⟩ = some (.int k (xs.getD j 0))
variable {k : IntKind}
theorem IsRow.below {w w' : World} {a : Option Addr} {xs : List Int} (h : IsRow k w a xs) (hb : Below w.heap.size w w') : IsRow k w' a xs := by
  intro i hi
  obtain ⟨b, off, ha, hlt, hc⟩ := h i hi
  exact ⟨b, off, ha, Nat.lt_of_lt_of_le hlt hb.size, fun j hj => (hb.cell (p := ⟨b, off + j, none⟩) hlt).trans (hc j hj)⟩
theorem IsRow.alloc {w : World} {a : Option Addr} {xs : List Int} (h : IsRow k w a xs) (o : Obj) : IsRow k (w.alloc o) a xs := h.below ((Below.refl _ _).alloc (Nat.le_refl _) _)
theorem IsRow.drewN {w : World} {a : Option Addr} {xs : List Int} (h : IsRow k w a xs) (n : Nat) : IsRow k (w.drewN n) a xs := h
theorem IsRow.setCell {w : World} {a : Option Addr} {xs : List Int} (h : IsRow k w a xs) {p : Addr} (hne : ∀ x, a = some x → x.block ≠ p.block) (v : Value) : IsRow k (w.setCell p v) a xs := by
  intro i hi
  obtain ⟨b, off, ha, hlt, hc⟩ := h i hi
  refine ⟨b, off, ha, by simpa using hlt, fun j hj => ?_⟩
  rw [World.cell?_setCell_other]
  · exact hc j hj
  · intro e
    exact hne _ ha (by rw [e])
theorem IsRow.get {w : World} {a : Option Addr} {xs : List Int} (h : IsRow k w a xs) {i : Nat} (hi : i < xs.length) :
    ∃ b off x, a = some ⟨b, off, none⟩ ∧ Hid (xs.getD i 0 = x) ∧ w.cell? ⟨b, off + i, none⟩ = some (.int k x) ∧ b < w.heap.size := by
  obtain ⟨b, off, ha, hlt, hc⟩ := h i hi
  exact ⟨b, off, _, ha, Lib.hid rfl, hc i hi, hlt⟩
theorem IsRow.take {w : World} {a : Option Addr} {xs : List Int} (h : IsRow k w a xs) (n : Nat) (hn : n ≤ xs.length) : IsRow k w a (xs.take n) := by
  intro i hi
  have hi' : i < n := by simp at hi; omega
  obtain ⟨b, off, ha, hlt, hc⟩ := h i (by omega)
  refine ⟨b, off, ha, hlt, fun j hj => ?_⟩
  have hj' : j < n := by simp at hj; omega
  rw [hc j (by omega)]
  simp [List.getD_eq_getElem?_getD, List.getElem?_take, hj']
theorem IsRow.get2 {w : World} {a : Option Addr} {xs : List Int} (h : IsRow k w a xs) {i : Nat} (hi : i * 2 + 2 ≤ xs.length) :
    ∃ b off x y, a = some ⟨b, off, none⟩ ∧ Hid (xs.getD (i * 2) 0 = x) ∧ Hid (xs.getD (i * 2 + 1) 0 = y) ∧
      w.cell? ⟨b, off + i * 2, none⟩ = some (.int k x) ∧ w.cell? ⟨b, off + i * 2 + 1, none⟩ = some (.int k y) ∧ b < w.heap.size := by
  obtain ⟨b, off, ha, hlt, hc⟩ := h (i * 2) (by omega)
  exact ⟨b, off, _, _, ha, Lib.hid rfl, Lib.hid rfl, hc _ (by omega), by rw [Nat.add_assoc]; exact hc _ (by omega), hlt⟩

theorem numCells (l : List Int) : ∀ u ∈ l.map (Value.int k), u.oneCell' = true := by
  intro u hu
  obtain ⟨n, _, rfl⟩ := List.mem_map.1 hu
  rfl
/-- an owned row, read: elements of s cells -/
theorem row_of_owns {w : World} {B : Nat} {e : TypeId} {s : Nat} {v : Value} {n : Nat} {xs : List Int} (h : w.ownsRow B e s v n (xs.map (Value.int k))) :
    ∃ a cap, v = .slice a n cap ∧ IsRow k w a xs ∧ (∀ x, a = some x → B ≤ x.block ∧ x.block < w.heap.size ∧ x.off = 0 ∧ x.spot = none) ∧ (a = none → n = 0 ∧ cap = 0) ∧ n ≤ cap ∧ xs.length = n * s := by
  have hl : xs.length = n * s := by have := h.1; simpa using this
  obtain ⟨h1, ⟨rfl, hn⟩ | ⟨g, cap, cur, rfl, hg, hh, hn, hm, hs, ht⟩⟩ := h
  · subst hn
    exact ⟨none, 0, rfl, fun i hi => by omega, fun x hx => (by cases hx), fun _ => ⟨rfl, rfl⟩, Nat.le_refl _, hl⟩
  · have hlt := (Array.getElem?_eq_some_iff.1 hh).1
    refine ⟨some ⟨g, 0, none⟩, cap, rfl, fun i hi => ⟨g, 0, rfl, hlt, fun j hj => ?_⟩, fun x hx => (by cases hx; exact ⟨hg, hlt, rfl, rfl⟩), fun hx => (by cases hx), hn, hl⟩
    have := World.ownsRow.cells (w := w) (base := B) (e := e) (size := s) (n := n) (xs := xs.map (Value.int k)) ⟨h1, .inr ⟨g, cap, cur, rfl, hg, hh, hn, hm, hs, ht⟩⟩ (g := g) rfl j (.int k (xs.getD j 0)) (by
      rw [List.getElem?_map, List.getElem?_eq_getElem hj]; simp [List.getD_eq_getElem?_getD, hj])
    rw [Addr.add_lit] at this
    exact this
theorem row_news {w : World} {ga : Option Addr} {xs : List Int} (h : IsRow k w ga xs) : ∀ ad, ga = some ad → ∀ j u, (xs.map (Value.int k))[j]? = some u → w.cell? (ad.add j) = some u := by
  rintro ad rfl j u hj
  rw [List.getElem?_map] at hj
  cases hx : xs[j]? with
  | none => rw [hx] at hj; cases hj
  | some v =>
    rw [hx] at hj
    have hjl := (List.getElem?_eq_some_iff.1 hx).1
    obtain ⟨b, o, h1, _, hc⟩ := h j hjl
    cases h1
    rw [Addr.add_lit, hc j hjl, List.getD_eq_getElem?_getD, hx]
    exact hj
theorem row_none {w : World} {xs : List Int} (h : IsRow k w none xs) : xs = [] := by
  cases xs with
  | nil => rfl
  | cons x t => obtain ⟨b, o, h1, _⟩ := h 0 (by simp); cases h1
/-- a call that hands back a new row -/
def FreshRow (k : IntKind) (t : TypeId) (w : World) (xs : List Int) (e : Ending) (w' : World) : Prop :=
  ∃ v, e = .returned v ∧ w'.ownsRow w.heap.size t 1 v xs.length (xs.map (Value.int k)) ∧ Below w.heap.size w w'
theorem row_take_succ {xs ys : List Int} {k : Nat} (hl : xs.length = ys.length) (hk : k < xs.length) (h : xs.take k = ys.take k) (h2 : xs.getD k 0 = ys.getD k 0) : xs.take (k+1) = ys.take (k+1) := by
  rw [List.take_succ_eq_append_getElem hk, List.take_succ_eq_append_getElem (by omega), h]
  simp [List.getD_eq_getElem?_getD, hk, (by omega : k < ys.length)] at h2
  rw [h2]
end

section
open Go.RowKit

theorem infoR_int64 : (Try.prog.info? 2).map (fun i => (i.zero, i.size, i.bytes)) = some (some (.int .i64 0), 1, 8) := by kernel_rfl
theorem Clone_int64 (ga : Option Addr) (gc : Nat) (xs : List Int) (w : World) (hg : IsRow .i64 w ga xs) (hl : xs.length ≤ 100000) :
    Calls Try.prog 74 #[.slice ga xs.length gc] w (FreshRow .i64 2 w xs) := by
  have q22 : ∀ (w : World) (a : Option Addr) (n c n' c' : Nat), (binOp .eql 22 (.slice a n c) (.slice none n' c')).run Try.prog w = .ok (.bool a.isNone) w := fun w a n c n' c' => Lib.run_eql_slice_nil w _ _ a n c n' c' Try.underlying22
  have HG := Lib.hid hg
  clear hg
  cases ga with
  | none =>
    have hx : xs = [] := row_none HG.out
    subst hx
    go_enter Try.func74, Try.ntmps74
    go_wp2
    go_ret
    exact ⟨_, rfl, World.ownsRow_nil _ _ _ _, Below.refl _ _⟩
  | some a =>
    have HN := Lib.hid (row_news HG.out)
    go_enter Try.func74, Try.ntmps74
    go_wp2_with (at_builtin; refine wpl_append (.tmp 5) (.tmp 6) 22 2 (.int .i64 0) 1 8 Try.underlying22 infoR_int64 rfl (by decide) (by decide) w.heap.size _ 0 [] (some a) xs.length gc (xs.map (Value.int .i64)) (World.ownsRow_made w #[] 0 (Nat.le_refl _) (Nat.zero_le _) rfl) (by simp) (fun h => by cases h) (fun ad h j u hj => Lib.cell?_alloc_some _ (HN.out ad h j u hj)) (numCells _) (by omega) (by simp) rfl rfl rfl rfl ?_; intro v' w1 hown hgrow _)
    go_wp2
    go_ret
    refine ⟨v', rfl, by simpa using hown, ?_⟩
    exact ((Below.refl _ w).alloc (Nat.le_refl _) _).grown hgrow (by simp) (by intro k hk; simp [Value.ownBlock] at hk; omega)

theorem infoR_int : (Try.prog.info? 3).map (fun i => (i.zero, i.size, i.bytes)) = some (some (.int .i64 0), 1, 8) := by kernel_rfl
theorem Clone_int (ga : Option Addr) (gc : Nat) (xs : List Int) (w : World) (hg : IsRow .i64 w ga xs) (hl : xs.length ≤ 100000) :
    Calls Try.prog 75 #[.slice ga xs.length gc] w (FreshRow .i64 3 w xs) := by
  have q22 : ∀ (w : World) (a : Option Addr) (n c n' c' : Nat), (binOp .eql 23 (.slice a n c) (.slice none n' c')).run Try.prog w = .ok (.bool a.isNone) w := fun w a n c n' c' => Lib.run_eql_slice_nil w _ _ a n c n' c' Try.underlying23
  have HG := Lib.hid hg
  clear hg
  cases ga with
  | none =>
    have hx : xs = [] := row_none HG.out
    subst hx
    go_enter Try.func75, Try.ntmps75
    go_wp2
    go_ret
    exact ⟨_, rfl, World.ownsRow_nil _ _ _ _, Below.refl _ _⟩
  | some a =>
    have HN := Lib.hid (row_news HG.out)
    go_enter Try.func75, Try.ntmps75
    go_wp2_with (at_builtin; refine wpl_append (.tmp 5) (.tmp 6) 23 3 (.int .i64 0) 1 8 Try.underlying23 infoR_int rfl (by decide) (by decide) w.heap.size _ 0 [] (some a) xs.length gc (xs.map (Value.int .i64)) (World.ownsRow_made w #[] 0 (Nat.le_refl _) (Nat.zero_le _) rfl) (by simp) (fun h => by cases h) (fun ad h j u hj => Lib.cell?_alloc_some _ (HN.out ad h j u hj)) (numCells _) (by omega) (by simp) rfl rfl rfl rfl ?_; intro v' w1 hown hgrow _)
    go_wp2
    go_ret
    refine ⟨v', rfl, by simpa using hown, ?_⟩
    exact ((Below.refl _ w).alloc (Nat.le_refl _) _).grown hgrow (by simp) (by intro k hk; simp [Value.ownBlock] at hk; omega)

end
end Go.Proofs.Ytbmibaafkgleeaa
