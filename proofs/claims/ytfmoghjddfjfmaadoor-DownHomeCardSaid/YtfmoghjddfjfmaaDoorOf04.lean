/- The walk of the reference 04: Of. -/
import Derived.Test.YtfmoghjddfjfmaaDoorPrsAll
import Derived.Test.YtfmoghjddfjfmaaDoorSlRef
namespace Go.Proofs.YtfmoghjddfjfmaaDoor
open Go.RowKit Go.Shelf
attribute [local go_sem] Oper.semAt_some
set_option linter.unusedVariables false
set_option linter.unusedSimpArgs false

/-- a row of one element that was laid -/
def Fact.laid {T : TypeId} (base : Nat) (t : TypeId) (he : t ≠ T) (vs : Array Value) : Fact T :=
  ⟨fun v w => ∃ b, v = .slice (some ⟨b, 0, none⟩) 1 1 ∧ base ≤ b ∧ w.heap[b]? = some (.cells vs t), fun _ _ _ h ⟨b, e, hb, hh⟩ => ⟨b, e, hb, h.same _ _ hh (fun cs fr e => by cases e; exact he rfl)⟩⟩
theorem laid_news {w : World} {b : Nat} {vs : Array Value} {t : TypeId} (h : w.heap[b]? = some (.cells vs t)) : ∀ j u, vs.toList[j]? = some u → w.cell? ((⟨b, 0, none⟩ : Addr).add j) = some u := by
  intro j u hj
  rw [Addr.add_lit, Nat.zero_add]
  simp only [World.cell?, h]
  simpa using hj
theorem plsW_getD {ws : List Int} {a b k : Nat} (h : k < (plsW ws a b).length) : a ≤ (plsW ws a b).getD k 0 ∧ (plsW ws a b).getD k 0 < b := by
  rw [List.getD_eq_getElem?_getD, List.getElem?_eq_getElem h]
  exact plsW_mem (List.getElem_mem h)
theorem prs_take_succ {c : SlC} {a b k : Nat} (h : k < (plsW c.ws a b).length) : (prs c a b).take (k + 1) = (prs c a b).take k ++ [(c.ks.getD ((plsW c.ws a b).getD k 0) 0, c.vs.getD ((plsW c.ws a b).getD k 0) 0)] := by
  rw [prs, ← List.map_take, ← List.map_take, List.take_succ_eq_append_getElem h, List.map_append]
  congr 1
  have e : (plsW c.ws a b).getD k 0 = (plsW c.ws a b)[k] := by simp [List.getD_eq_getElem?_getD, List.getElem?_eq_getElem h]
  rw [e]
  rfl

end Go.Proofs.YtfmoghjddfjfmaaDoor
