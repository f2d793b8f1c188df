/- Merged: Open, OpenIx, OpenI2. -/
import Derived.Test.YtbmibaafkgleeaaLib
import Derived.ProofKit
import Derived.OpenShut
import Derived.ShutString
import Derived.ChangeOld
import Derived.Below
import Derived.Lib.SmallJoins
import Derived.Test.YtbmibaafkgleeaaIdxTwin
import Derived.Test.YtbmibaafkgleeaaRowAll
namespace Go.Proofs.Ytbmibaafkgleeaa
set_option linter.unusedVariables false
set_option linter.unusedSimpArgs false
section
open Go.ChangeShapes Go.WideShapes Go.ChangeAt Go.RowKit Go.Joins

end

section
open Go.ChangeShapes Go.WideShapes Go.ChangeAt Go.RowKit Go.Joins

theorem open_rowK {H : Type} {enc : TypeId × Value → H} {w : World} {fuel : Nat} {base : Nat} {spare : Nat → Bool} {held : Bool} {t e : TypeId} {k : IntKind} {cs : List Value} {x : DataW H × List MemPlace}
    (ht : Try.prog.underlying t = some (.slice e)) (he : Try.prog.underlying e = some (.int k)) (hc : Try.prog.cellsOf e = 1) (h : DataW.trod enc Try.prog w base spare held fuel t cs = some x) :
    ∃ (ao : Option Addr) (xs : List Int) (cap : Nat), cs = [.slice ao xs.length cap] ∧ IsRow k w ao xs ∧ (ao = none → cap = 0) ∧ xs.length ≤ maxLen ∧ (∀ n ∈ xs, (Lit.int k n).wf = true) := by
  rcases open_ints ht he hc h with ⟨rfl, rfl⟩ | ⟨a, len, cap, zs, rfl, hb, hl, hm, hz, rfl, hc, hw⟩
  · exact ⟨none, [], 0, rfl, fun i hi => by simp at hi, fun _ => rfl, by simp, by simp⟩
  · have hlen : len ≤ zs.length := by rw [hz]; split <;> omega
    refine ⟨some a, zs.take len, cap, by simp [hlen], ?_, fun h => (by cases h), by simp; omega, fun n hn => hw n (List.mem_of_mem_take hn)⟩
    intro i hi
    have hi' : i < len := by simp at hi; omega
    obtain ⟨b, off, sp⟩ := a
    have h0 := hc 0 (by omega)
    obtain rfl : sp = none := by simpa [Addr.add] using World.cell?_spot h0
    refine ⟨b, off, rfl, ?_, fun j hj => ?_⟩
    · have := World.block_lt_of_cell? w _ h0
      simpa [Addr.add] using this
    · have hj' : j < len := by simp at hj; omega
      have := hc j (by omega)
      rw [Addr.add_lit] at this
      rw [this]
      simp [List.getD_eq_getElem?_getD, List.getElem?_take, hj']
set_option maxRecDepth 20000 in
theorem open_ix {H : Type} {enc : TypeId × Value → H} {w : World} {base : Nat} {spare : Nat → Bool} {held : Bool} {r : Reach} {b0 : Nat} {v : Value} {d : DataW H} {p : List MemPlace}
    (hv : Value.okWide Try.prog w r b0 25 v) (h : DataW.Trod enc Try.prog w base spare held 25 v d p) :
    ∃ (l : Int) (ma ca : Option Addr) (mc cc : Nat) (ms cs : List Int), v = ixV l ma ms.length mc ca cs.length cc ∧ IsRow .i64 w ma ms ∧ IsRow .i64 w ca cs ∧ (ma = none → mc = 0) ∧ (ca = none → cc = 0) ∧ ms.length ≤ maxLen ∧ cs.length ≤ maxLen := by
  obtain ⟨v0, v1, v2, y0, y1, y2, n, rfl, rfl, rfl, t0, t1, t2⟩ := open_agg3 Try.underlying25 (by kernel_rfl) (by kernel_rfl) hv h
  obtain ⟨l, e0, -, -⟩ := DataW.trod_int Try.underlying3 t0
  obtain ⟨ma, ms, mc, e1, h1, h2, h3, _⟩ := open_rowK Try.underlying22 Try.underlying2 (by kernel_rfl) t1
  obtain ⟨ca, cs, cc, e2, k1, k2, k3, _⟩ := open_rowK Try.underlying23 Try.underlying3 (by kernel_rfl) t2
  simp only [List.cons.injEq, and_true] at e0 e1 e2
  subst e0 e1 e2
  exact ⟨l, ma, ca, mc, cc, ms, cs, rfl, h1, k1, h2, k2, h3, k3⟩
end

section
open Go.ChangeShapes Go.WideShapes Go.ChangeAt Go.RowKit Go.Joins

theorem okWide_array2 {P : Program} {w : World} {r : Reach} {base : Nat} {t e : TypeId} {n : Nat} {v : Value} (ht : P.underlying t = some (.array n e)) (h : Value.okWide P w r base t v) : ∃ cs, v = .agg cs ∧ cs.size = P.cellsOf t := by
  simp only [Value.okWide, ht] at h
  obtain ⟨cs, h1, h2, _⟩ := h
  exact ⟨cs, h1, h2⟩
set_option maxRecDepth 20000 in
theorem open_i2 {H : Type} {enc : TypeId × Value → H} {w : World} {base : Nat} {spare : Nat → Bool} {held : Bool} {r : Reach} {b0 : Nat} {v : Value} {d : DataW H} {p : List MemPlace}
    (hv : Value.okWide Try.prog w r b0 30 v) (h : DataW.Trod enc Try.prog w base spare held 30 v d p) :
    ∃ (x y : Int), v = .agg #[.int .i64 x, .int .i64 y] := by
  obtain ⟨cs, rfl, hsz⟩ := okWide_array2 Try.underlying30 hv
  have h2 : Try.prog.cellsOf 30 = 2 := by kernel_rfl
  have h1 : Try.prog.cellsOf 3 = 1 := by kernel_rfl
  obtain ⟨c0, c1, rfl⟩ := array2 (hsz.trans h2)
  obtain ⟨fuel, hf⟩ := h
  obtain ⟨xs, m, _, _, _, hl, he⟩ := DataW.trod_array Try.underlying30 hf
  have e0 := he 0 (by decide)
  have e1 := he 1 (by decide)
  match xs, hl with
  | [y0, y1], _ =>
    simp only [h1, Value.cells] at e0 e1
    obtain ⟨x, k0, -, w0⟩ := DataW.trod_int Try.underlying3 (show DataW.trod enc Try.prog w base spare held m 3 [c0] = some y0 from by simpa using e0)
    obtain ⟨y, k1, -, w1⟩ := DataW.trod_int Try.underlying3 (show DataW.trod enc Try.prog w base spare held m 3 [c1] = some y1 from by simpa using e1)
    simp only [List.cons.injEq, and_true] at k0 k1
    subst k0 k1
    exact ⟨x, y, rfl⟩
end
end Go.Proofs.Ytbmibaafkgleeaa
