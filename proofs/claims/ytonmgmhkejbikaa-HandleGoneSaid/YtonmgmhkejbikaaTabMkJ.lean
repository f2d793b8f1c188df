/- What holds at handle.Make's loop and behind it. -/
import Derived.Test.YtonmgmhkejbikaaTabNew
import Derived.Test.YtonmgmhkejbikaaTabPush
import Derived.Test.YtonmgmhkejbikaaBoxed
import Derived.Test.YtonmgmhkejbikaaTabLv
namespace Go.Proofs.Ytonmgmhkejbikaa
open Go.RowKit Go.Shelf
set_option linter.unusedVariables false
set_option linter.unusedSimpArgs false

theorem OwnTab.calm {B M C : Nat} {W W' : World} {v u : Value} {gs ps : List Int} (h : OwnTab B M W v u gs ps) (hc : Calm C W W') : OwnTab B M W' v u gs ps :=
  ⟨hc.owns h.g, hc.owns h.p, h.ne, h.gm, h.pm⟩
/-- what holds at each round of Make's loop -/
structure MkI (w : World) (X BB MM : Nat) (v u : Value) (gs ps : List Int) (hn hg : Int) (W : World) : Prop where
  box : Boxed W [(w.heap.size + 1, 0, .slice none 0 0), (w.heap.size + 1, 1, .slice none 0 0), (w.heap.size + 1 + 1, 0, .int .i64 0), (w.heap.size + 1 + 1, 1, .int .i64 0), (X, 0, v), (X, 1, u)]
  hb : Boxed W [(X + 1, 0, .int .i64 hn), (X + 1, 1, .int .i64 hg)]
  own : OwnTab BB MM W v u gs ps
  bel : Below w.heap.size w W
  sz : X + 2 < W.heap.size
theorem MkI.calm {w : World} {X BB MM : Nat} {v u : Value} {gs ps : List Int} {hn hg : Int} {W W' : World} {B : Nat} (h : MkI w X BB MM v u gs ps hn hg W) (hc : Calm B W W') (hB : w.heap.size ≤ B) : MkI w X BB MM v u gs ps hn hg W' :=
  ⟨h.box.calm hc, h.hb.calm hc, ⟨hc.owns h.own.g, hc.owns h.own.p, h.own.ne, h.own.gm, h.own.pm⟩, hc.below hB h.bel, Nat.lt_of_lt_of_le h.sz hc.size⟩
theorem MkI.below {w : World} {X BB MM : Nat} {v u : Value} {gs ps : List Int} {hn hg : Int} {W W' : World} (h : MkI w X BB MM v u gs ps hn hg W) (hb : Below W.heap.size W W') : MkI w X BB MM v u gs ps hn hg W' :=
  ⟨h.box.below hb, h.hb.below hb, h.own.below hb, h.bel.trans (hb.mono h.bel.size), Nat.lt_of_lt_of_le h.sz hb.size⟩
theorem MkI.set {w : World} {X BB MM : Nat} {v u : Value} {gs ps : List Int} {hn hg : Int} {W : World} (h : MkI w X BB MM v u gs ps hn hg W) (h1 : w.heap.size + 1 + 1 < X) (h2 : MM ≤ X) (hn' hg' : Int) :
    MkI w X BB MM v u gs ps hn' hg' ((W.setCell ⟨X + 1, 0, none⟩ (.int .i64 hn')).setCell ⟨X + 1, 1, none⟩ (.int .i64 hg')) where
  box := by
    refine (h.box.other _ _ ?_).other _ _ ?_
    all_goals
      intro q hq
      simp only [List.mem_cons, List.not_mem_nil, or_false] at hq
      rcases hq with rfl | rfl | rfl | rfl | rfl | rfl <;> dsimp only <;> omega
  hb := h.hb.set2
  own := (h.own.other _ _ (.inr (by dsimp only; omega))).other _ _ (.inr (by dsimp only; omega))
  bel := (h.bel.setCell (by dsimp only; omega) _).setCell (by dsimp only; omega) _
  sz := by simpa using h.sz

/-- what holds behind Make's loop, while both rows grow -/
structure MkJ (w : World) (X BB MM D : Nat) (xv xu v u : Value) (gs ps : List Int) (hn hg : Int) (W : World) : Prop where
  box : Boxed W [(w.heap.size + 1, 0, .slice none 0 0), (w.heap.size + 1, 1, .slice none 0 0), (w.heap.size + 1 + 1, 0, .int .i64 0), (w.heap.size + 1 + 1, 1, .int .i64 0), (X + 1, 0, .int .i64 hn), (X + 1, 1, .int .i64 hg)]
  xb : Boxed W [(X, 0, xv), (X, 1, xu)]
  own : OwnTab BB MM W v u gs ps
  bel : Below w.heap.size w W
  dk : W.heap[D]? = some (.deferred (some []))
  sz : X + 1 < W.heap.size
theorem MkJ.below {w : World} {X BB MM D : Nat} {xv xu v u : Value} {gs ps : List Int} {hn hg : Int} {W W' : World} (h : MkJ w X BB MM D xv xu v u gs ps hn hg W) (hb : Below W.heap.size W W') : MkJ w X BB MM D xv xu v u gs ps hn hg W' :=
  ⟨h.box.below hb, h.xb.below hb, h.own.below hb, h.bel.trans (hb.mono h.bel.size), (hb.block D (Array.getElem?_eq_some_iff.1 h.dk).1).trans h.dk, Nat.lt_of_lt_of_le h.sz hb.size⟩
theorem Pushed.boxed {B : Nat} {W : World} {v v' : Value} {xs : List Int} {y : Int} {w' : World} (h : Pushed B W v xs y v' w') {l : List (Nat × Nat × Value)} (hb : Boxed W l) (hn : ∀ q ∈ l, v.ownBlock ≠ some q.1) : Boxed w' l :=
  fun b o z hm => ⟨h.cell (hb b o z hm).1 (hn _ hm), h.frozen (hb b o z hm).1 (hb b o z hm).2 (hn _ hm)⟩
theorem MkJ.push_g {w : World} {X BB MM D : Nat} {xv xu v v' u : Value} {gs gs2 ps : List Int} {hn hg y : Int} {W W' : World} (h : MkJ w X BB MM D xv xu v u gs ps hn hg W) (hp : Pushed BB W v gs y v' W') (hz : gs ++ [y] = gs2) (hr : ∀ k, v.ownBlock = some k → BB ≤ k ∧ k < X)
    (h1 : w.heap.size + 1 + 1 < BB) (h2 : X < D) (hM : MM ≤ W.heap.size) : MkJ w X BB W'.heap.size D xv xu v' u gs2 ps hn hg W' where
  box := hp.boxed h.box (by
    intro q hq e
    have := hr _ e
    simp only [List.mem_cons, List.not_mem_nil, or_false] at hq
    rcases hq with rfl | rfl | rfl | rfl | rfl | rfl <;> dsimp only at this <;> omega)
  xb := hp.boxed h.xb (by
    intro q hq e
    have := hr _ e
    simp only [List.mem_cons, List.not_mem_nil, or_false] at hq
    rcases hq with rfl | rfl <;> dsimp only at this <;> omega)
  own := h.own.push_g' hM hp hz
  bel := h.bel.trans (hp.below _ (by omega) h.bel.size)
  dk := (hp.same D (Array.getElem?_eq_some_iff.1 h.dk).1 (fun e => by have := hr _ e; omega)).trans h.dk
  sz := Nat.lt_of_lt_of_le h.sz hp.size
theorem MkJ.push_p {w : World} {X BB MM D : Nat} {xv xu v u u' : Value} {gs ps ps2 : List Int} {hn hg y : Int} {W W' : World} (h : MkJ w X BB MM D xv xu v u gs ps hn hg W) (hp : Pushed BB W u ps y u' W') (hz : ps ++ [y] = ps2) (hr : ∀ k, u.ownBlock = some k → BB ≤ k ∧ k < X)
    (h1 : w.heap.size + 1 + 1 < BB) (h2 : X < D) (hM : MM ≤ W.heap.size) : MkJ w X BB W'.heap.size D xv xu v u' gs ps2 hn hg W' where
  box := hp.boxed h.box (by
    intro q hq e
    have := hr _ e
    simp only [List.mem_cons, List.not_mem_nil, or_false] at hq
    rcases hq with rfl | rfl | rfl | rfl | rfl | rfl <;> dsimp only at this <;> omega)
  xb := hp.boxed h.xb (by
    intro q hq e
    have := hr _ e
    simp only [List.mem_cons, List.not_mem_nil, or_false] at hq
    rcases hq with rfl | rfl <;> dsimp only at this <;> omega)
  own := h.own.push_p' hM hp hz
  bel := h.bel.trans (hp.below _ (by omega) h.bel.size)
  dk := (hp.same D (Array.getElem?_eq_some_iff.1 h.dk).1 (fun e => by have := hr _ e; omega)).trans h.dk
  sz := Nat.lt_of_lt_of_le h.sz hp.size
theorem MkJ.setx {w : World} {X BB MM D : Nat} {xv xu v u : Value} {gs ps : List Int} {hn hg : Int} {W : World} (h : MkJ w X BB MM D xv xu v u gs ps hn hg W) (h1 : w.heap.size + 1 + 1 < X) (h2 : X < D) (hv : v.ownBlock ≠ some X) (hu : u.ownBlock ≠ some X) (yv yu : Value) :
    MkJ w X BB MM D yv yu v u gs ps hn hg ((W.setCell ⟨X, 0, none⟩ yv).setCell ⟨X, 1, none⟩ yu) where
  box := by
    refine (h.box.other _ _ ?_).other _ _ ?_
    all_goals
      intro q hq
      simp only [List.mem_cons, List.not_mem_nil, or_false] at hq
      rcases hq with rfl | rfl | rfl | rfl | rfl | rfl <;> dsimp only <;> omega
  xb := h.xb.set2
  own := (h.own.other' _ _ hv hu).other' _ _ hv hu
  bel := (h.bel.setCell (by dsimp only; omega) _).setCell (by dsimp only; omega) _
  dk := by rw [heap_setCell_ne _ _ _ (by dsimp only; omega), heap_setCell_ne _ _ _ (by dsimp only; omega)]; exact h.dk
  sz := by simpa using h.sz

end Go.Proofs.Ytonmgmhkejbikaa
