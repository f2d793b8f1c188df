/- Small facts on lists, worlds and owned rows, used by the walks of this seat. No function of the program is walked here. -/
import Derived.Test.YtookgoidlnlckaaMem
namespace Go.Proofs.Ytookgoidlnlckaa
open Go.RowKit

theorem ret_int {k : IntKind} {a b : Int} (h : a = b) : Ending.returned (.int k a) = .returned (.int k b) := by rw [h]

/-- a slice of ints that is read -/
def IsInts (w : World) (a : Option Addr) (xs : List Int) : Prop :=
  ∀ i, i < xs.length → ∃ b off, a = some ⟨b, off, none⟩ ∧ b < w.heap.size ∧ ∀ j, j < xs.length → w.cell? ⟨b, off + j, none⟩ = some (.int .i64 (xs.getD j 0))

theorem IsInts.below {w w' : World} {a : Option Addr} {xs : List Int} (h : IsInts w a xs) (hb : Below w.heap.size w w') : IsInts w' a xs := by
  intro i hi
  obtain ⟨b, off, ha, hlt, hc⟩ := h i hi
  exact ⟨b, off, ha, Nat.lt_of_lt_of_le hlt hb.size, fun j hj => (hb.cell (p := ⟨b, off + j, none⟩) hlt).trans (hc j hj)⟩

theorem IsInts.setCell {w : World} {a : Option Addr} {xs : List Int} (h : IsInts w a xs) {p : Addr} (hne : ∀ x, a = some x → x.block ≠ p.block) (v : Value) : IsInts (w.setCell p v) a xs := by
  intro i hi
  obtain ⟨b, off, ha, hlt, hc⟩ := h i hi
  refine ⟨b, off, ha, by simpa using hlt, fun j hj => ?_⟩
  rw [World.cell?_setCell_other]
  · exact hc j hj
  · intro e
    exact hne _ ha (by rw [e])

/-- one element, behind a name of its own -/
theorem IsInts.get {w : World} {a : Option Addr} {xs : List Int} (h : IsInts w a xs) {k : Nat} (hk : k < xs.length) :
    ∃ b off x, a = some ⟨b, off, none⟩ ∧ Hid (xs.getD k 0 = x) ∧ w.cell? ⟨b, off + k, none⟩ = some (.int .i64 x) ∧ b < w.heap.size := by
  obtain ⟨b, off, ha, hlt, hc⟩ := h k hk
  exact ⟨b, off, _, ha, Lib.hid rfl, hc k hk, hlt⟩

theorem info_int : (Try.prog.info? 3).map (fun i => (i.zero, i.size, i.bytes)) = some (some (.int .i64 0), 1, 8) := by kernel_rfl

/-- the predicate of a call that hands back a new row of ints and leaves all that was there alone -/
def FreshInts (w : World) (xs : List Int) (e : Ending) (w' : World) : Prop :=
  ∃ v, e = .returned v ∧ w'.ownsRow w.heap.size 3 1 v xs.length (xs.map (Value.int .i64)) ∧ Below w.heap.size w w'

/-- numbers as ints -/
def ints (l : List Nat) : List Int := List.map (fun n : Nat => (n : Int)) l
theorem ints_length (l : List Nat) : (ints l).length = l.length := by simp [ints]
theorem ints_append (a b : List Nat) : ints (a ++ b) = ints a ++ ints b := by simp [ints]
theorem getD_ints (l : List Nat) (k : Nat) : (ints l).getD k 0 = ((l.getD k 0 : Nat) : Int) := by
  simp [ints, List.getD_eq_getElem?_getD]
  cases l[k]? <;> simp

/-- an owned row as the source of an append -/
theorem owns_news {w : World} {B : Nat} {e : TypeId} {s : Nat} {v : Value} {n : Nat} {xs : List Value} (h : w.ownsRow B e s v n xs) :
    ∃ ao c, v = .slice ao n c ∧ (ao = none → n = 0 ∧ c = 0) ∧ ∀ ad, ao = some ad → ∀ j u, xs[j]? = some u → w.cell? (ad.add j) = some u := by
  have h0 := h
  obtain ⟨h1, ⟨rfl, h2⟩ | ⟨g, cap, cur, rfl, hg, hh, hn', hm, hs, ht⟩⟩ := h
  · exact ⟨none, 0, by rw [h2], fun _ => ⟨h2, rfl⟩, fun ad had => by cases had⟩
  · exact ⟨some ⟨g, 0, none⟩, cap, rfl, fun hx => (by cases hx), fun ad had => (by cases had; exact World.ownsRow.cells h0 rfl)⟩
end Go.Proofs.Ytookgoidlnlckaa
