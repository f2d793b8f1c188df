/- What Make answers, in plain lists; the reference's Given and Make. -/
import Derived.Test.YtonmgmhkejbikaaTabSet
namespace Go.Proofs.Ytonmgmhkejbikaa
open Go.RowKit Go.Shelf
set_option linter.unusedVariables false
set_option linter.unusedSimpArgs false

/-- may a number be given out again? -/
def freeB (gs ps : List Int) (k : Nat) : Bool := decide (ps.getD k 0 < 0) && decide (gs.getD k 0 < 2147483647)
def firstF (gs ps : List Int) : Option Nat := (List.range gs.length).find? (freeB gs ps)
theorem firstF_some {gs ps : List Int} {k : Nat} (hk : k < gs.length) (h : freeB gs ps k = true) (hn : ∀ j, j < k → freeB gs ps j = false) : firstF gs ps = some k := by
  rw [firstF, List.find?_range_eq_some]
  exact ⟨h, by simpa using hk, fun j hj => by simp [hn j hj]⟩
theorem firstF_none {gs ps : List Int} (hn : ∀ j, j < gs.length → freeB gs ps j = false) : firstF gs ps = none := by
  rw [firstF, List.find?_eq_none]
  intro j hj
  simp [hn j (by simpa using hj)]
theorem firstF_is {gs ps : List Int} {k : Nat} (h : firstF gs ps = some k) : k < gs.length ∧ freeB gs ps k = true ∧ ∀ j, j < k → freeB gs ps j = false := by
  rw [firstF, List.find?_range_eq_some] at h
  exact ⟨by simpa using h.2.1, h.1, fun j hj => by simpa using h.2.2 j hj⟩
theorem firstF_no {gs ps : List Int} (h : firstF gs ps = none) : ∀ j, j < gs.length → freeB gs ps j = false := by
  rw [firstF, List.find?_eq_none] at h
  exact fun j hj => by simpa using h j (by simpa using hj)

def makeOk (gs ps : List Int) (at_ : Int) : Bool := may gs ps && decide (0 ≤ at_) && ((firstF gs ps).isSome || decide (gs.length ≠ 65536))
def makeG (gs ps : List Int) (at_ : Int) : List Int := if makeOk gs ps at_ = true then (match firstF gs ps with | some _ => gs | none => gs ++ [0]) else []
def makeP (gs ps : List Int) (at_ : Int) : List Int := if makeOk gs ps at_ = true then (match firstF gs ps with | some k => ps.set k at_ | none => ps ++ [at_]) else []
def makeN (gs ps : List Int) (at_ : Int) : Int := if makeOk gs ps at_ = true then (match firstF gs ps with | some k => (k : Int) | none => (gs.length : Int)) else 0
def makeK (gs ps : List Int) (at_ : Int) : Int := if makeOk gs ps at_ = true then (match firstF gs ps with | some k => gs.getD k 0 | none => 0) else 0
def makeE (gs ps : List Int) (at_ : Int) : Int := if may gs ps = true then (if at_ < 0 then 2 else if makeOk gs ps at_ = true then 0 else 9) else 8

/-- a table, a handle and a number that are handed back -/
def MakeRes (w : World) (gs ps : List Int) (n g x : Int) (e : Ending) (w' : World) : Prop :=
  ∃ v u, e = .returned (.tuple #[.agg #[v, u], .agg #[.int .i64 n, .int .i64 g], .int .i64 x]) ∧ w'.ownsRow w.heap.size 3 1 v gs.length (gs.map (Value.int .i64)) ∧ w'.ownsRow w.heap.size 3 1 u ps.length (ps.map (Value.int .i64)) ∧
    (∀ k l, v.ownBlock = some k → u.ownBlock = some l → k ≠ l) ∧ Below w.heap.size w w'
theorem MakeRes.of {w W : World} {B M : Nat} {v u : Value} {gs ps : List Int} {n g x : Int} (h : OwnTab B M W v u gs ps) (hB : w.heap.size ≤ B) (hb : Below w.heap.size w W) : MakeRes w gs ps n g x (.returned (.tuple #[.agg #[v, u], .agg #[.int .i64 n, .int .i64 g], .int .i64 x])) W :=
  ⟨v, u, rfl, owns_base h.g hB, owns_base h.p hB, h.ne, hb⟩
theorem MakeRes.err {w W : World} {x : Int} (hb : Below w.heap.size w W) : MakeRes w [] [] 0 0 x (.returned (.tuple #[.agg #[.slice none 0 0, .slice none 0 0], .agg #[.int .i64 0, .int .i64 0], .int .i64 x])) W :=
  ⟨_, _, rfl, World.ownsRow_nil _ _ _ _, World.ownsRow_nil _ _ _ _, fun k l h => by simp [Value.ownBlock] at h, hb⟩
def MakeR (w : World) (gs ps : List Int) (at_ : Int) : Ending → World → Prop := MakeRes w (makeG gs ps at_) (makeP gs ps at_) (makeN gs ps at_) (makeK gs ps at_) (makeE gs ps at_)
theorem makeR_bad {w : World} {gs ps : List Int} {at_ : Int} (h : may gs ps = false) : MakeR w gs ps at_ = MakeRes w [] [] 0 0 8 := by
  have : makeOk gs ps at_ = false := by simp [makeOk, h]
  simp [MakeR, makeG, makeP, makeN, makeK, makeE, h, this]
theorem makeR_neg {w : World} {gs ps : List Int} {at_ : Int} (h : may gs ps = true) (h2 : at_ < 0) : MakeR w gs ps at_ = MakeRes w [] [] 0 0 2 := by
  have h3 : ¬ 0 ≤ at_ := by omega
  have : makeOk gs ps at_ = false := by simp [makeOk, h3]
  simp [MakeR, makeG, makeP, makeN, makeK, makeE, h, this, h2]
theorem makeR_old {w : World} {gs ps : List Int} {at_ : Int} {k : Nat} (h : may gs ps = true) (h2 : 0 ≤ at_) (h3 : firstF gs ps = some k) : MakeR w gs ps at_ = MakeRes w gs (ps.set k at_) k (gs.getD k 0) 0 := by
  have h4 : ¬ at_ < 0 := by omega
  have : makeOk gs ps at_ = true := by simp [makeOk, h, h2, h3]
  simp [MakeR, makeG, makeP, makeN, makeK, makeE, h, this, h3, h4]
theorem makeR_full {w : World} {gs ps : List Int} {at_ : Int} (h : may gs ps = true) (h2 : 0 ≤ at_) (h3 : firstF gs ps = none) (h5 : gs.length = 65536) : MakeR w gs ps at_ = MakeRes w [] [] 0 0 9 := by
  have h4 : ¬ at_ < 0 := by omega
  have : makeOk gs ps at_ = false := by simp [makeOk, h3, h5]
  simp [MakeR, makeG, makeP, makeN, makeK, makeE, h, this, h4]
theorem makeR_new {w : World} {gs ps : List Int} {at_ : Int} (h : may gs ps = true) (h2 : 0 ≤ at_) (h3 : firstF gs ps = none) (h5 : gs.length ≠ 65536) : MakeR w gs ps at_ = MakeRes w (gs ++ [0]) (ps ++ [at_]) gs.length 0 0 := by
  have h4 : ¬ at_ < 0 := by omega
  have : makeOk gs ps at_ = true := by simp [makeOk, h, h2, h5]
  simp [MakeR, makeG, makeP, makeN, makeK, makeE, h, this, h3, h4]
end Go.Proofs.Ytonmgmhkejbikaa
