/- Arguments opened: an array of two bytes. -/
import Derived.Test.YtammdgffdgegfaaOpen
namespace Go.Proofs.Ytammdgffdgegfaa
open Go.ChangeShapes Go.WideShapes Go.ChangeAt Go.RowKit Go.Joins
set_option linter.unusedVariables false
set_option linter.unusedSimpArgs false

theorem okWide_array' {P : Program} {w : World} {r : Reach} {base : Nat} {t e : TypeId} {n : Nat} {v : Value} (ht : P.underlying t = some (.array n e)) (h : Value.okWide P w r base t v) : ∃ cs, v = .agg cs ∧ cs.size = P.cellsOf t := by
  simp only [Value.okWide, ht] at h
  obtain ⟨cs, h1, h2, _⟩ := h
  exact ⟨cs, h1, h2⟩
theorem open_u8a2 {H : Type} {enc : TypeId × Value → H} {w : World} {base : Nat} {spare : Nat → Bool} {held : Bool} {r : Reach} {b0 : Nat} {v : Value} {d : DataW H} {p : List MemPlace}
    (hv : Value.okWide Try.prog w r b0 43 v) (h : DataW.Trod enc Try.prog w base spare held 43 v d p) :
    ∃ (x y : Int), v = .agg #[.int .u8 x, .int .u8 y] ∧ (0 ≤ x ∧ x ≤ 255) ∧ (0 ≤ y ∧ y ≤ 255) := by
  obtain ⟨cs, rfl, hsz⟩ := okWide_array' Try.underlying43 hv
  have h2 : Try.prog.cellsOf 43 = 2 := by kernel_rfl
  have h1 : Try.prog.cellsOf 5 = 1 := by kernel_rfl
  obtain ⟨c0, c1, rfl⟩ := array2 (hsz.trans h2)
  obtain ⟨fuel, hf⟩ := h
  obtain ⟨xs, m, _, _, _, hl, he⟩ := DataW.trod_array Try.underlying43 hf
  have e0 := he 0 (by decide)
  have e1 := he 1 (by decide)
  match xs, hl with
  | [y0, y1], _ =>
    simp only [h1, Value.cells] at e0 e1
    obtain ⟨x, k0, -, w0⟩ := DataW.trod_int Try.underlying5 (show DataW.trod enc Try.prog w base spare held m 5 [c0] = some y0 from by simpa using e0)
    obtain ⟨y, k1, -, w1⟩ := DataW.trod_int Try.underlying5 (show DataW.trod enc Try.prog w base spare held m 5 [c1] = some y1 from by simpa using e1)
    simp only [List.cons.injEq, and_true] at k0 k1
    subst k0 k1
    exact ⟨x, y, rfl, bounds_u8 w0, bounds_u8 w1⟩
end Go.Proofs.Ytammdgffdgegfaa
