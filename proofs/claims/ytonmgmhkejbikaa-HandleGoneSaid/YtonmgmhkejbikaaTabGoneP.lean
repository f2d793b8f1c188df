/- What holds behind the statement of HandleGone that gives a number out: plain facts on worlds. -/
import Derived.Test.YtonmgmhkejbikaaTabOwn
namespace Go.Proofs.Ytonmgmhkejbikaa
open Go.RowKit Go.Shelf
set_option linter.unusedVariables false
set_option linter.unusedSimpArgs false

/-- the new table lies in a box at b, its handle in one at c -/
structure GoneP (W : World) (G P : List Int) (N K : Int) (b c : Nat) (vy uy : Option Addr) (cy dy : Nat) (w' : World) : Prop where
  lb : W.heap.size ≤ b
  lc : W.heap.size ≤ c
  ub : b < w'.heap.size
  uc : c < w'.heap.size
  ne : b ≠ c
  bel : Below W.heap.size W w'
  g : IsInts w' vy G
  p : IsInts w' uy P
  b0 : w'.cell? ⟨b, 0, none⟩ = some (.slice vy G.length cy)
  b1 : w'.cell? ⟨b, 1, none⟩ = some (.slice uy P.length dy)
  c0 : w'.cell? ⟨c, 0, none⟩ = some (.int .i64 N)
  c1 : w'.cell? ⟨c, 1, none⟩ = some (.int .i64 K)
  gb : ∀ x, vy = some x → W.heap.size ≤ x.block
  pb : ∀ x, uy = some x → W.heap.size ≤ x.block

/-- what the call leaves: rows from M on -/
structure GoneC (W : World) (G P : List Int) (M : Nat) (vy uy : Option Addr) (w2 : World) : Prop where
  bel : Below W.heap.size W w2
  g : IsInts w2 vy G
  p : IsInts w2 uy P
  gb : ∀ x, vy = some x → M ≤ x.block
  pb : ∀ x, uy = some x → M ≤ x.block
  lm : W.heap.size ≤ M

theorem GoneC.set {W : World} {G P : List Int} {M : Nat} {vy uy : Option Addr} {w2 : World} (h : GoneC W G P M vy uy w2) {q : Addr} (hq : W.heap.size ≤ q.block) (hM : q.block < M) (x : Value) : GoneC W G P M vy uy (w2.setCell q x) :=
  ⟨h.bel.setCell hq _, h.g.setCell (fun y hy => by have := h.gb y hy; omega) _, h.p.setCell (fun y hy => by have := h.pb y hy; omega) _, h.gb, h.pb, h.lm⟩
theorem GoneC.alloc {W : World} {G P : List Int} {M : Nat} {vy uy : Option Addr} {w2 : World} (h : GoneC W G P M vy uy w2) (o : Obj) : GoneC W G P M vy uy (w2.alloc o) :=
  ⟨h.bel.alloc h.bel.size _, h.g.alloc _, h.p.alloc _, h.gb, h.pb, h.lm⟩

theorem gone1 {W : World} {G P : List Int} {M : Nat} {N K : Int} {vy uy : Option Addr} {cy dy : Nat} {w2 : World} (h : GoneC W G P M vy uy w2) (t1 t2 : TypeId) :
    GoneP W G P N K w2.heap.size (w2.heap.size + 1) vy uy cy dy ((w2.alloc (.cells #[.slice vy G.length cy, .slice uy P.length dy] t1)).alloc (.cells #[.int .i64 N, .int .i64 K] t2)) := by
  have h2 := (h.alloc (.cells #[.slice vy G.length cy, .slice uy P.length dy] t1)).alloc (.cells #[.int .i64 N, .int .i64 K] t2)
  have hz := h.bel.size
  exact ⟨hz, by omega, by simp; omega, by simp, by omega, h2.bel, h2.g, h2.p, by (first | (with_reducible assumption) | ((try simp (disch := first | omega | (simp only [World.size_alloc, World.size_setCell, World.size_drew, World.heap_drewN] <;> omega) | fail) only [World.cell?_alloc_past, World.cell?_alloc_at, World.frozen?_alloc_past, World.frozen?_alloc_at, World.frozen?_setCell, World.cell?_drew, World.frozen?_drew]) <;> first | (with_reducible assumption) | rfl)), by (first | (with_reducible assumption) | ((try simp (disch := first | omega | (simp only [World.size_alloc, World.size_setCell, World.size_drew, World.heap_drewN] <;> omega) | fail) only [World.cell?_alloc_past, World.cell?_alloc_at, World.frozen?_alloc_past, World.frozen?_alloc_at, World.frozen?_setCell, World.cell?_drew, World.frozen?_drew]) <;> first | (with_reducible assumption) | rfl)), by (first | (with_reducible assumption) | ((try simp (disch := first | omega | (simp only [World.size_alloc, World.size_setCell, World.size_drew, World.heap_drewN] <;> omega) | fail) only [World.cell?_alloc_past, World.cell?_alloc_at, World.frozen?_alloc_past, World.frozen?_alloc_at, World.frozen?_setCell, World.cell?_drew, World.frozen?_drew]) <;> first | (with_reducible assumption) | rfl)), by (first | (with_reducible assumption) | ((try simp (disch := first | omega | (simp only [World.size_alloc, World.size_setCell, World.size_drew, World.heap_drewN] <;> omega) | fail) only [World.cell?_alloc_past, World.cell?_alloc_at, World.frozen?_alloc_past, World.frozen?_alloc_at, World.frozen?_setCell, World.cell?_drew, World.frozen?_drew]) <;> first | (with_reducible assumption) | rfl)), fun x hx => Nat.le_trans h.lm (h.gb x hx), fun x hx => Nat.le_trans h.lm (h.pb x hx)⟩
theorem gone2 {W : World} {G P : List Int} {M : Nat} {N K : Int} {vy uy : Option Addr} {cy dy : Nat} {w2 : World} (h : GoneC W G P M vy uy w2) (t1 t2 : TypeId) :
    GoneP W G P N K (w2.heap.size + 1) w2.heap.size vy uy cy dy ((w2.alloc (.cells #[.int .i64 N, .int .i64 K] t2)).alloc (.cells #[.slice vy G.length cy, .slice uy P.length dy] t1)) := by
  have h2 := (h.alloc (.cells #[.int .i64 N, .int .i64 K] t2)).alloc (.cells #[.slice vy G.length cy, .slice uy P.length dy] t1)
  have hz := h.bel.size
  exact ⟨by omega, hz, by simp, by simp; omega, by omega, h2.bel, h2.g, h2.p, by (first | (with_reducible assumption) | ((try simp (disch := first | omega | (simp only [World.size_alloc, World.size_setCell, World.size_drew, World.heap_drewN] <;> omega) | fail) only [World.cell?_alloc_past, World.cell?_alloc_at, World.frozen?_alloc_past, World.frozen?_alloc_at, World.frozen?_setCell, World.cell?_drew, World.frozen?_drew]) <;> first | (with_reducible assumption) | rfl)), by (first | (with_reducible assumption) | ((try simp (disch := first | omega | (simp only [World.size_alloc, World.size_setCell, World.size_drew, World.heap_drewN] <;> omega) | fail) only [World.cell?_alloc_past, World.cell?_alloc_at, World.frozen?_alloc_past, World.frozen?_alloc_at, World.frozen?_setCell, World.cell?_drew, World.frozen?_drew]) <;> first | (with_reducible assumption) | rfl)), by (first | (with_reducible assumption) | ((try simp (disch := first | omega | (simp only [World.size_alloc, World.size_setCell, World.size_drew, World.heap_drewN] <;> omega) | fail) only [World.cell?_alloc_past, World.cell?_alloc_at, World.frozen?_alloc_past, World.frozen?_alloc_at, World.frozen?_setCell, World.cell?_drew, World.frozen?_drew]) <;> first | (with_reducible assumption) | rfl)), by (first | (with_reducible assumption) | ((try simp (disch := first | omega | (simp only [World.size_alloc, World.size_setCell, World.size_drew, World.heap_drewN] <;> omega) | fail) only [World.cell?_alloc_past, World.cell?_alloc_at, World.frozen?_alloc_past, World.frozen?_alloc_at, World.frozen?_setCell, World.cell?_drew, World.frozen?_drew]) <;> first | (with_reducible assumption) | rfl)), fun x hx => Nat.le_trans h.lm (h.gb x hx), fun x hx => Nat.le_trans h.lm (h.pb x hx)⟩
theorem gone3 {W : World} {G P : List Int} {M b : Nat} {N K : Int} {vy uy : Option Addr} {cy dy : Nat} {w2 : World} {x y : Value} (h : GoneC W G P M vy uy w2) (hb : W.heap.size ≤ b) (hM : b < M) (h0 : w2.cell? ⟨b, 0, none⟩ = some x) (h1 : w2.cell? ⟨b, 1, none⟩ = some y) (t2 : TypeId) :
    GoneP W G P N K b w2.heap.size vy uy cy dy (((w2.setCell ⟨b, 0, none⟩ (.slice vy G.length cy)).setCell ⟨b, 1, none⟩ (.slice uy P.length dy)).alloc (.cells #[.int .i64 N, .int .i64 K] t2)) := by
  have hlt : b < w2.heap.size := World.block_lt_of_cell? w2 _ h0
  obtain ⟨k0, k1⟩ := box2_stored (x := .slice vy G.length cy) (y := .slice uy P.length dy) h0 h1
  have h2 := ((h.set (q := ⟨b, 0, none⟩) hb hM (.slice vy G.length cy)).set (q := ⟨b, 1, none⟩) hb hM (.slice uy P.length dy)).alloc (.cells #[.int .i64 N, .int .i64 K] t2)
  have hz := h.bel.size
  exact ⟨hb, hz, by simp; omega, by simp, by omega, h2.bel, h2.g, h2.p, by rw [World.cell?_alloc_past _ _ _ (by simp; omega)]; exact k0, by rw [World.cell?_alloc_past _ _ _ (by simp; omega)]; exact k1, by (first | (with_reducible assumption) | ((try simp (disch := first | omega | (simp only [World.size_alloc, World.size_setCell, World.size_drew, World.heap_drewN] <;> omega) | fail) only [World.cell?_alloc_past, World.cell?_alloc_at, World.frozen?_alloc_past, World.frozen?_alloc_at, World.frozen?_setCell, World.cell?_drew, World.frozen?_drew]) <;> first | (with_reducible assumption) | rfl)), by (first | (with_reducible assumption) | ((try simp (disch := first | omega | (simp only [World.size_alloc, World.size_setCell, World.size_drew, World.heap_drewN] <;> omega) | fail) only [World.cell?_alloc_past, World.cell?_alloc_at, World.frozen?_alloc_past, World.frozen?_alloc_at, World.frozen?_setCell, World.cell?_drew, World.frozen?_drew]) <;> first | (with_reducible assumption) | rfl)), fun x hx => Nat.le_trans h.lm (h.gb x hx), fun x hx => Nat.le_trans h.lm (h.pb x hx)⟩
theorem gone4 {W : World} {G P : List Int} {M c : Nat} {N K : Int} {vy uy : Option Addr} {cy dy : Nat} {w2 : World} {x y : Value} (h : GoneC W G P M vy uy w2) (hc : W.heap.size ≤ c) (hM : c < M) (h0 : w2.cell? ⟨c, 0, none⟩ = some x) (h1 : w2.cell? ⟨c, 1, none⟩ = some y) (t1 : TypeId) :
    GoneP W G P N K w2.heap.size c vy uy cy dy (((w2.setCell ⟨c, 0, none⟩ (.int .i64 N)).setCell ⟨c, 1, none⟩ (.int .i64 K)).alloc (.cells #[.slice vy G.length cy, .slice uy P.length dy] t1)) := by
  have hlt : c < w2.heap.size := World.block_lt_of_cell? w2 _ h0
  obtain ⟨k0, k1⟩ := box2_stored (x := .int .i64 N) (y := .int .i64 K) h0 h1
  have h2 := ((h.set (q := ⟨c, 0, none⟩) hc hM (.int .i64 N)).set (q := ⟨c, 1, none⟩) hc hM (.int .i64 K)).alloc (.cells #[.slice vy G.length cy, .slice uy P.length dy] t1)
  have hz := h.bel.size
  exact ⟨hz, hc, by simp, by simp; omega, by omega, h2.bel, h2.g, h2.p, by (first | (with_reducible assumption) | ((try simp (disch := first | omega | (simp only [World.size_alloc, World.size_setCell, World.size_drew, World.heap_drewN] <;> omega) | fail) only [World.cell?_alloc_past, World.cell?_alloc_at, World.frozen?_alloc_past, World.frozen?_alloc_at, World.frozen?_setCell, World.cell?_drew, World.frozen?_drew]) <;> first | (with_reducible assumption) | rfl)), by (first | (with_reducible assumption) | ((try simp (disch := first | omega | (simp only [World.size_alloc, World.size_setCell, World.size_drew, World.heap_drewN] <;> omega) | fail) only [World.cell?_alloc_past, World.cell?_alloc_at, World.frozen?_alloc_past, World.frozen?_alloc_at, World.frozen?_setCell, World.cell?_drew, World.frozen?_drew]) <;> first | (with_reducible assumption) | rfl)), by rw [World.cell?_alloc_past _ _ _ (by simp; omega)]; exact k0, by rw [World.cell?_alloc_past _ _ _ (by simp; omega)]; exact k1, fun x hx => Nat.le_trans h.lm (h.gb x hx), fun x hx => Nat.le_trans h.lm (h.pb x hx)⟩
theorem gone5 {W : World} {G P : List Int} {M b c : Nat} {N K : Int} {vy uy : Option Addr} {cy dy : Nat} {w2 : World} {x y x' y' : Value} (h : GoneC W G P M vy uy w2) (hb : W.heap.size ≤ b) (hM : b < M) (hc : W.heap.size ≤ c) (hM' : c < M) (hne : b ≠ c)
    (h0 : w2.cell? ⟨b, 0, none⟩ = some x) (h1 : w2.cell? ⟨b, 1, none⟩ = some y) (h2 : w2.cell? ⟨c, 0, none⟩ = some x') (h3 : w2.cell? ⟨c, 1, none⟩ = some y') :
    GoneP W G P N K b c vy uy cy dy ((((w2.setCell ⟨b, 0, none⟩ (.slice vy G.length cy)).setCell ⟨b, 1, none⟩ (.slice uy P.length dy)).setCell ⟨c, 0, none⟩ (.int .i64 N)).setCell ⟨c, 1, none⟩ (.int .i64 K)) := by
  have hlt : b < w2.heap.size := World.block_lt_of_cell? w2 _ h0
  have hlt2 : c < w2.heap.size := World.block_lt_of_cell? w2 _ h2
  obtain ⟨k0, k1, k2, k3⟩ := box22_stored (x := .slice vy G.length cy) (y := .slice uy P.length dy) (z := .int .i64 N) (t := .int .i64 K) h0 h1 h2 h3 hne
  have h9 := (((h.set (q := ⟨b, 0, none⟩) hb hM (.slice vy G.length cy)).set (q := ⟨b, 1, none⟩) hb hM (.slice uy P.length dy)).set (q := ⟨c, 0, none⟩) hc hM' (.int .i64 N)).set (q := ⟨c, 1, none⟩) hc hM' (.int .i64 K)
  exact ⟨hb, hc, by simpa using hlt, by simpa using hlt2, hne, h9.bel, h9.g, h9.p, k0, k1, k2, k3, fun x hx => Nat.le_trans h.lm (h.gb x hx), fun x hx => Nat.le_trans h.lm (h.pb x hx)⟩
end Go.Proofs.Ytonmgmhkejbikaa
