/- Arguments opened: tables of handles, and handles. -/
import Derived.Test.YtonmgmhkejbikaaOpen
import Derived.Test.YtonmgmhkejbikaaTab
namespace Go.Proofs.Ytonmgmhkejbikaa
open Go.ChangeShapes Go.WideShapes Go.ChangeAt Go.RowKit Go.Joins
set_option linter.unusedVariables false
set_option linter.unusedSimpArgs false

theorem open_tab {H : Type} {enc : TypeId × Value → H} {w : World} {base : Nat} {spare : Nat → Bool} {held : Bool} {r : Reach} {b0 : Nat} {v : Value} {d : DataW H} {p : List MemPlace}
    (hv : Value.okWide Try.prog w r b0 24 v) (h : DataW.Trod enc Try.prog w base spare held 24 v d p) :
    ∃ (ga aa : Option Addr) (gc ac : Nat) (gs ps : List Int), v = tabV ga gs.length gc aa ps.length ac ∧ IsInts w ga gs ∧ IsInts w aa ps ∧ (ga = none → gc = 0) ∧ (aa = none → ac = 0) ∧ gs.length ≤ maxLen ∧ ps.length ≤ maxLen := by
  obtain ⟨v0, v1, y0, y1, n, rfl, rfl, rfl, t0, t1⟩ := open_agg2 Try.underlying24 (by kernel_rfl) (by kernel_rfl) hv h
  obtain ⟨ga, gs, gc, e0, h1, h2, h3, _⟩ := open_isInts t0
  obtain ⟨aa, ps, ac, e1, k1, k2, k3, _⟩ := open_isInts t1
  simp only [List.cons.injEq, and_true] at e0 e1
  subst e0 e1
  exact ⟨ga, aa, gc, ac, gs, ps, rfl, h1, k1, h2, k2, h3, k3⟩

theorem open_hand {H : Type} {enc : TypeId × Value → H} {w : World} {base : Nat} {spare : Nat → Bool} {held : Bool} {r : Reach} {b0 : Nat} {v : Value} {d : DataW H} {p : List MemPlace}
    (hv : Value.okWide Try.prog w r b0 26 v) (h : DataW.Trod enc Try.prog w base spare held 26 v d p) :
    ∃ (n g : Int), v = .agg #[.int .i64 n, .int .i64 g] ∧ (Lit.int .i64 n).wf = true ∧ (Lit.int .i64 g).wf = true := by
  obtain ⟨v0, v1, y0, y1, k, rfl, rfl, rfl, t0, t1⟩ := open_agg2 Try.underlying26 (by kernel_rfl) (by kernel_rfl) hv h
  obtain ⟨n, e0, -, h0⟩ := DataW.trod_int Try.underlying3 t0
  obtain ⟨g, e1, -, h1⟩ := DataW.trod_int Try.underlying3 t1
  simp only [List.cons.injEq, and_true] at e0 e1
  subst e0 e1
  exact ⟨n, g, rfl, h0, h1⟩
end Go.Proofs.Ytonmgmhkejbikaa
