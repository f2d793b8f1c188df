/- Walks of slices.Clone and slices.Equal at rows of numbers, and of the references' comparing functions. -/
import Derived.Test.YtfmoghjddfjfmaaDoorRow
import Derived.BigRegion
import Derived.Lib.SliceRun
namespace Go.Proofs.YtfmoghjddfjfmaaDoor
open Go.RowKit
set_option linter.unusedVariables false
set_option linter.unusedSimpArgs false

theorem infoR_int64 : (Tryd.prog.info? 2).map (fun i => (i.zero, i.size, i.bytes)) = some (some (.int .i64 0), 1, 8) := by kernel_rfl
theorem Clone_int64 (ga : Option Addr) (gc : Nat) (xs : List Int) (w : World) (hg : IsRow .i64 w ga xs) (hl : xs.length ≤ 100000) :
    Calls Tryd.prog 62 #[.slice ga xs.length gc] w (FreshRow .i64 2 w xs) := by
  have q22 : ∀ (w : World) (a : Option Addr) (n c n' c' : Nat), (binOp .eql 23 (.slice a n c) (.slice none n' c')).run Tryd.prog w = .ok (.bool a.isNone) w := fun w a n c n' c' => Lib.run_eql_slice_nil w _ _ a n c n' c' Tryd.underlying23
  have HG := Lib.hid hg
  clear hg
  cases ga with
  | none =>
    have hx : xs = [] := row_none HG.out
    subst hx
    go_enter Tryd.func62, Tryd.ntmps62
    go_wp2
    go_ret
    exact ⟨_, rfl, World.ownsRow_nil _ _ _ _, Below.refl _ _⟩
  | some a =>
    have HN := Lib.hid (row_news HG.out)
    go_enter Tryd.func62, Tryd.ntmps62
    go_wp2_with (at_builtin; refine wpl_append (.tmp 5) (.tmp 6) 23 2 (.int .i64 0) 1 8 Tryd.underlying23 infoR_int64 rfl (by decide) (by decide) w.heap.size _ 0 [] (some a) xs.length gc (xs.map (Value.int .i64)) (World.ownsRow_made w #[] 0 (Nat.le_refl _) (Nat.zero_le _) rfl) (by simp) (fun h => by cases h) (fun ad h j u hj => Lib.cell?_alloc_some _ (HN.out ad h j u hj)) (numCells _) (by omega) (by simp) rfl rfl rfl rfl ?_; intro v' w1 hown hgrow _)
    go_wp2
    go_ret
    refine ⟨v', rfl, by simpa using hown, ?_⟩
    exact ((Below.refl _ w).alloc (Nat.le_refl _) _).grown hgrow (by simp) (by intro k hk; simp [Value.ownBlock] at hk; omega)

theorem infoR_int : (Tryd.prog.info? 3).map (fun i => (i.zero, i.size, i.bytes)) = some (some (.int .i64 0), 1, 8) := by kernel_rfl
theorem Clone_int (ga : Option Addr) (gc : Nat) (xs : List Int) (w : World) (hg : IsRow .i64 w ga xs) (hl : xs.length ≤ 100000) :
    Calls Tryd.prog 63 #[.slice ga xs.length gc] w (FreshRow .i64 3 w xs) := by
  have q22 : ∀ (w : World) (a : Option Addr) (n c n' c' : Nat), (binOp .eql 24 (.slice a n c) (.slice none n' c')).run Tryd.prog w = .ok (.bool a.isNone) w := fun w a n c n' c' => Lib.run_eql_slice_nil w _ _ a n c n' c' Tryd.underlying24
  have HG := Lib.hid hg
  clear hg
  cases ga with
  | none =>
    have hx : xs = [] := row_none HG.out
    subst hx
    go_enter Tryd.func63, Tryd.ntmps63
    go_wp2
    go_ret
    exact ⟨_, rfl, World.ownsRow_nil _ _ _ _, Below.refl _ _⟩
  | some a =>
    have HN := Lib.hid (row_news HG.out)
    go_enter Tryd.func63, Tryd.ntmps63
    go_wp2_with (at_builtin; refine wpl_append (.tmp 5) (.tmp 6) 24 3 (.int .i64 0) 1 8 Tryd.underlying24 infoR_int rfl (by decide) (by decide) w.heap.size _ 0 [] (some a) xs.length gc (xs.map (Value.int .i64)) (World.ownsRow_made w #[] 0 (Nat.le_refl _) (Nat.zero_le _) rfl) (by simp) (fun h => by cases h) (fun ad h j u hj => Lib.cell?_alloc_some _ (HN.out ad h j u hj)) (numCells _) (by omega) (by simp) rfl rfl rfl rfl ?_; intro v' w1 hown hgrow _)
    go_wp2
    go_ret
    refine ⟨v', rfl, by simpa using hown, ?_⟩
    exact ((Below.refl _ w).alloc (Nat.le_refl _) _).grown hgrow (by simp) (by intro k hk; simp [Value.ownBlock] at hk; omega)

end Go.Proofs.YtfmoghjddfjfmaaDoor
