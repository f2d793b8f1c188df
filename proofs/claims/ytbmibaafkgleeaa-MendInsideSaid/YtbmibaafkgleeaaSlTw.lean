/- Merged: SlFns, Twin04. -/
import Derived.Test.YtbmibaafkgleeaaBlt18
import Derived.Test.YtbmibaafkgleeaaRowAll
import Derived.Test.YtbmibaafkgleeaaBitsSl
namespace Go.Proofs.Ytbmibaafkgleeaa
set_option linter.unusedVariables false
set_option linter.unusedSimpArgs false
section
open Go.RowKit

def gr4 (n lk lv lw lc : Nat) : Bool := decide (n < lk) || decide (n < lv) || decide (n < lw) || decide (n < lc)
theorem Great04_ok (seg : Int) (wa ka va ca : Option Addr) (wc kc vc cc lw lk lv lc : Nat) (laid : Int) (n : Nat) (w : World) :
    Calls Try.prog 10 #[.agg #[.int .i64 seg, .slice wa lw wc, .slice ka lk kc, .slice va lv vc, .slice ca lc cc, .int .u64 laid], .int .i64 n] w (AnsB w (.bool (gr4 n lk lv lw lc))) := by
  go_enter Try.func10, Try.ntmps10
  go_wp2
  all_goals go_ret
  all_goals exact ⟨by first | rfl | (simp [gr4, *]; done) | (simp [gr4]; omega), (Below.refl _ _).alloc (Nat.le_refl _) _⟩

end

section
open Go.RowKit

theorem info4_uint64 : (Try.prog.info? 27).map (fun i => (i.zero, i.size, i.bytes)) = some (some (.int .u64 0), 1, 8) := by kernel_rfl
theorem info4_int64 : (Try.prog.info? 2).map (fun i => (i.zero, i.size, i.bytes)) = some (some (.int .i64 0), 1, 8) := by kernel_rfl
theorem info4_int : (Try.prog.info? 3).map (fun i => (i.zero, i.size, i.bytes)) = some (some (.int .i64 0), 1, 8) := by kernel_rfl
/-- a gapped array of one's own -/
def FreshSl (w : World) (c : SlC) (e : Ending) (w' : World) : Prop :=
  ∃ v1 v2 v3 v4, e = .returned (.agg #[.int .i64 c.seg, v1, v2, v3, v4, .int .u64 c.laid]) ∧ w'.ownsRow w.heap.size 27 1 v1 c.ws.length (c.ws.map (Value.int .u64)) ∧ w'.ownsRow w.heap.size 2 1 v2 c.ks.length (c.ks.map (Value.int .i64)) ∧ w'.ownsRow w.heap.size 2 1 v3 c.vs.length (c.vs.map (Value.int .i64)) ∧ w'.ownsRow w.heap.size 3 1 v4 c.cs.length (c.cs.map (Value.int .i64)) ∧ Below w.heap.size w w'
theorem six_at {w : World} {b : Nat} {x y z p q r : Value} (h0 : w.cell? ⟨b, 0, none⟩ = some x) (h1 : w.cell? ⟨b, 1, none⟩ = some y) (h2 : w.cell? ⟨b, 2, none⟩ = some z) (h3 : w.cell? ⟨b, 3, none⟩ = some p) (h4 : w.cell? ⟨b, 4, none⟩ = some q) (h5 : w.cell? ⟨b, 5, none⟩ = some r) : ∀ j v, [x, y, z, p, q, r][j]? = some v → w.cell? ⟨b, j, none⟩ = some v := by
  intro j v hj
  match j with
  | 0 => simp at hj; rw [← hj]; exact h0
  | 1 => simp at hj; rw [← hj]; exact h1
  | 2 => simp at hj; rw [← hj]; exact h2
  | 3 => simp at hj; rw [← hj]; exact h3
  | 4 => simp at hj; rw [← hj]; exact h4
  | 5 => simp at hj; rw [← hj]; exact h5
  | n + 6 => simp at hj
theorem set_keep {w : World} {a b : Addr} {v u : Value} (h : a ≠ b) (hc : w.cell? a = some u) : (w.setCell b v).cell? a = some u := (World.cell?_setCell_other _ _ _ _ (by intro e; exact h (by rw [e]))).trans hc
theorem six_set {w : World} {b : Nat} {x y z p q r x' y' z' p' q' r' : Value} (h0 : w.cell? ⟨b, 0, none⟩ = some x') (h1 : w.cell? ⟨b, 1, none⟩ = some y') (h2 : w.cell? ⟨b, 2, none⟩ = some z') (h3 : w.cell? ⟨b, 3, none⟩ = some p') (h4 : w.cell? ⟨b, 4, none⟩ = some q') (h5 : w.cell? ⟨b, 5, none⟩ = some r') :
    ∀ j v, [x, y, z, p, q, r][j]? = some v → ((((((w.setCell ⟨b, 0, none⟩ x).setCell ⟨b, 1, none⟩ y).setCell ⟨b, 2, none⟩ z).setCell ⟨b, 3, none⟩ p).setCell ⟨b, 4, none⟩ q).setCell ⟨b, 5, none⟩ r).cell? ⟨b, j, none⟩ = some v := by
  refine six_at ?_ ?_ ?_ ?_ ?_ ?_
  · exact set_keep (by simp) (set_keep (by simp) (set_keep (by simp) (set_keep (by simp) (set_keep (by simp) (World.cell?_setCell_same _ _ _ h0)))))
  · exact set_keep (by simp) (set_keep (by simp) (set_keep (by simp) (set_keep (by simp) (World.cell?_setCell_same _ _ _ (set_keep (by simp) h1)))))
  · exact set_keep (by simp) (set_keep (by simp) (set_keep (by simp) (World.cell?_setCell_same _ _ _ (set_keep (by simp) (set_keep (by simp) h2)))))
  · exact set_keep (by simp) (set_keep (by simp) (World.cell?_setCell_same _ _ _ (set_keep (by simp) (set_keep (by simp) (set_keep (by simp) h3)))))
  · exact set_keep (by simp) (World.cell?_setCell_same _ _ _ (set_keep (by simp) (set_keep (by simp) (set_keep (by simp) (set_keep (by simp) h4)))))
  · exact World.cell?_setCell_same _ _ _ (set_keep (by simp) (set_keep (by simp) (set_keep (by simp) (set_keep (by simp) (set_keep (by simp) h5)))))

end
end Go.Proofs.Ytbmibaafkgleeaa
