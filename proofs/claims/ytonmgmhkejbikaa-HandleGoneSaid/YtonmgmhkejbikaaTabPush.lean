/- append of one number to a row of one's own; tables of one's own that grow. -/
import Derived.Test.YtonmgmhkejbikaaTabOwn
namespace Go.Proofs.Ytonmgmhkejbikaa
open Go.RowKit Go.Shelf
set_option linter.unusedVariables false
set_option linter.unusedSimpArgs false

/-- what append of one number does to a row of one's own -/
structure Pushed (B : Nat) (W : World) (v : Value) (xs : List Int) (y : Int) (v' : Value) (w' : World) : Prop where
  own : w'.ownsRow B 3 1 v' (xs ++ [y]).length ((xs ++ [y]).map (Value.int .i64))
  same : ∀ k, k < W.heap.size → v.ownBlock ≠ some k → w'.heap[k]? = W.heap[k]?
  fresh : v'.ownBlock = v.ownBlock ∨ ∀ k, v'.ownBlock = some k → W.heap.size ≤ k
  size : W.heap.size ≤ w'.heap.size
  below : ∀ n, n ≤ B → n ≤ W.heap.size → Below n W w'

theorem pushed_of {B : Nat} {W : World} {v v' : Value} {xs : List Int} {y : Int} {w' : World} (hB : B ≤ W.heap.size) (hv : ∀ k, v.ownBlock = some k → B ≤ k)
    (h1 : w'.ownsRow B 3 1 v' (xs.length + 1) (xs.map (Value.int .i64) ++ [.int .i64 y])) (h2 : (W.alloc (.cells #[.int .i64 y] 3)).grownBy w' v.ownBlock) (h3 : v'.ownBlock = v.ownBlock ∨ ∀ k, v'.ownBlock = some k → (W.alloc (.cells #[.int .i64 y] 3)).heap.size ≤ k) :
    Pushed B W v xs y v' w' where
  own := by simpa using h1
  same k hk hne := (h2.block k (by simp; omega) (fun e => hne e.symm)).trans (Below.heap_alloc _ _ _ hk)
  fresh := by
    rcases h3 with h | h
    · exact .inl h
    · exact .inr fun k hk => by have := h k hk; simp at this; omega
  size := by have := h2.size; simp at this; omega
  below n hn hW := ((Below.refl n W).alloc hW _).grown h2 (by simp; omega) (fun k hk => by have := hv k hk; omega)

theorem pushed_step {B : Nat} {W : World} {v v' : Value} {xs : List Int} {y : Int} {w' : World} (hB : B ≤ W.heap.size) (hv : ∀ k, v.ownBlock = some k → B ≤ k)
    (h1 : w'.ownsRow B 3 1 v' (xs.length + 1) (xs.map (Value.int .i64) ++ [.int .i64 y])) (h2 : W.grownBy w' v.ownBlock) (h3 : v'.ownBlock = v.ownBlock ∨ ∀ k, v'.ownBlock = some k → W.heap.size ≤ k) :
    Pushed B W v xs y v' w' where
  own := by simpa using h1
  same k hk hne := h2.block k hk (fun e => hne e.symm)
  fresh := h3
  size := h2.size
  below n hn hW := (Below.refl n W).grown h2 hW (fun k hk => by have := hv k hk; omega)

/-- 'append(xs, y)' as one step of a region that draws its order; the new number lies in a box at bk -/
theorem step_append1 {W : World} {ops : Array Oper} {o : Oper} {a : Act} {K : Act → World → Prop} {Q : Exit → Act → World → Prop} {E : Prop} (s x : Operand) (B bk : Nat) (v : Value) (xs : List Int) (y : Int)
    (hown : W.ownsRow B 3 1 v xs.length (xs.map (Value.int .i64))) (hc : W.cell? ⟨bk, 0, none⟩ = some (.int .i64 y)) (hlen : xs.length ≤ 4294967295) (hbase : B ≤ W.heap.size)
    (hgd : o.guard = none) (ho : o.op = .call { callee := .builtin .append, args := #[s, x], argTypes := #[22, 22] })
    (hs : a.eval s = v) (hx : a.eval x = .slice (some ⟨bk, 0, none⟩) 1 1)
    (h : ∀ v' w', Pushed B W v xs y v' w' → K (a.put o.dst v') w') :
    if Region.wanted o (yielded ops a.tmps) = true then Oper.wp Try.prog o a W K Q else E := by
  refine step_append s x 22 3 (.int .i64 0) 1 8 Try.underlying22 info_int rfl (by decide) (by decide) B v xs.length (xs.map (Value.int .i64)) (some ⟨bk, 0, none⟩) 1 1 [.int .i64 y]
    hown rfl (fun h => by cases h) ?_ (by simp [Value.oneCell']) (by omega) hbase hgd ho hs hx ?_
  · rintro ad h j u hj
    cases h
    match j with
    | 0 => simp at hj; subst hj; exact hc
    | j + 1 => simp at hj
  · intro v' w' h1 h2 h3
    exact h v' w' (pushed_step hbase (fun k hk => (hown.lt k hk).1) h1 h2 h3)

/-- 'append(xs, y)' onto a row of the call's own, text order -/
theorem wpl_append1 {W : World} {ops : Array Oper} {rest : List Oper} {o : Oper} {a : Act} {Q : Exit → Act → World → Prop} (s x : Operand) (B bk : Nat) (v : Value) (xs : List Int) (y : Int) (hbk : bk = W.heap.size)
    (hown : W.ownsRow B 3 1 v xs.length (xs.map (Value.int .i64))) (hlen : xs.length ≤ 4294967295) (hbase : B ≤ W.heap.size)
    (hgd : o.guard = none) (ho : o.op = .call { callee := .builtin .append, args := #[s, x], argTypes := #[22, 22] })
    (hs : a.eval s = v) (hx : a.eval x = .slice (some ⟨bk, 0, none⟩) 1 1)
    (h : ∀ v' w', Pushed B W v xs y v' w' → wpList Try.prog ops Q rest (a.put o.dst v') w') :
    wpList Try.prog ops Q (o :: rest) a (W.alloc (.cells #[.int .i64 y] 3)) := by
  subst hbk
  refine wpl_append s x 22 3 (.int .i64 0) 1 8 Try.underlying22 info_int rfl (by decide) (by decide) B v xs.length (xs.map (Value.int .i64)) (some ⟨W.heap.size, 0, none⟩) 1 1 [.int .i64 y]
    (owns_below hown ((Below.refl _ _).alloc (Nat.le_refl _) _)) rfl (fun h => by cases h) (new_cells W [.int .i64 y] 3 _ rfl) (by simp [Value.oneCell']) (by omega) (by simp; omega) hgd ho hs hx ?_
  intro v' w' h1 h2 h3
  exact h v' w' (pushed_of hbase (fun k hk => (hown.lt k hk).1) h1 h2 h3)

theorem OwnTab.push_g {B M : Nat} {W : World} {v u : Value} {gs ps : List Int} (h : OwnTab B M W v u gs ps) (hM : M ≤ W.heap.size) {y : Int} {v' : Value} {w' : World} (hp : Pushed B W v gs y v' w') : OwnTab B w'.heap.size w' v' u (gs ++ [y]) ps where
  g := hp.own
  p := owns_heap h.p fun k hk => hp.same k (by have := h.pm k hk; omega) (fun e => h.ne k k e hk rfl)
  ne k l hk hl := by
    rcases hp.fresh with e | e
    · rw [e] at hk; exact h.ne k l hk hl
    · have := e k hk; have := h.pm l hl; omega
  gm k hk := (hp.own.lt k hk).2
  pm k hk := by have := h.pm k hk; have := hp.size; omega
theorem OwnTab.push_p {B M : Nat} {W : World} {v u : Value} {gs ps : List Int} (h : OwnTab B M W v u gs ps) (hM : M ≤ W.heap.size) {y : Int} {u' : Value} {w' : World} (hp : Pushed B W u ps y u' w') : OwnTab B w'.heap.size w' v u' gs (ps ++ [y]) where
  p := hp.own
  g := owns_heap h.g fun k hk => hp.same k (by have := h.gm k hk; omega) (fun e => h.ne k k hk e rfl)
  ne k l hk hl := by
    rcases hp.fresh with e | e
    · rw [e] at hl; exact h.ne k l hk hl
    · have := e l hl; have := h.gm k hk; omega
  pm k hk := (hp.own.lt k hk).2
  gm k hk := by have := h.gm k hk; have := hp.size; omega
/-- a cell elsewhere is written -/
theorem OwnTab.other' {B M : Nat} {W : World} {v u : Value} {gs ps : List Int} (h : OwnTab B M W v u gs ps) (p : Addr) (x : Value) (hv : v.ownBlock ≠ some p.block) (hu : u.ownBlock ≠ some p.block) : OwnTab B M (W.setCell p x) v u gs ps :=
  ⟨owns_heap h.g fun k hk => heap_setCell_ne _ _ _ (fun e => hv (by rw [hk, e])), owns_heap h.p fun k hk => heap_setCell_ne _ _ _ (fun e => hu (by rw [hk, e])), h.ne, h.gm, h.pm⟩
theorem Pushed.own' {B : Nat} {W : World} {v v' : Value} {xs zs : List Int} {y : Int} {w' : World} (h : Pushed B W v xs y v' w') (hz : xs ++ [y] = zs) : w'.ownsRow B 3 1 v' zs.length (zs.map (Value.int .i64)) := by
  rw [← hz]; exact h.own
theorem Pushed.range {B lo hi : Nat} {W : World} {v v' : Value} {xs : List Int} {y : Int} {w' : World} (h : Pushed B W v xs y v' w') (hr : ∀ k, v.ownBlock = some k → lo ≤ k ∧ k < hi) :
    ∀ k, v'.ownBlock = some k → (lo ≤ k ∧ k < hi) ∨ W.heap.size ≤ k := by
  intro k hk
  rcases h.fresh with e | e
  · rw [e] at hk
    exact .inl (hr k hk)
  · exact .inr (e k hk)
theorem OwnTab.push_g' {B M : Nat} {W : World} {v u : Value} {gs gs2 ps : List Int} (h : OwnTab B M W v u gs ps) (hM : M ≤ W.heap.size) {y : Int} {v' : Value} {w' : World} (hp : Pushed B W v gs y v' w') (hz : gs ++ [y] = gs2) : OwnTab B w'.heap.size w' v' u gs2 ps := by
  rw [← hz]; exact h.push_g hM hp
theorem OwnTab.push_p' {B M : Nat} {W : World} {v u : Value} {gs ps ps2 : List Int} (h : OwnTab B M W v u gs ps) (hM : M ≤ W.heap.size) {y : Int} {u' : Value} {w' : World} (hp : Pushed B W u ps y u' w') (hz : ps ++ [y] = ps2) : OwnTab B w'.heap.size w' v u' gs ps2 := by
  rw [← hz]; exact h.push_p hM hp
theorem Pushed.cell {B : Nat} {W : World} {v v' : Value} {xs : List Int} {y : Int} {w' : World} (h : Pushed B W v xs y v' w') {p : Addr} {z : Value} (hc : W.cell? p = some z) (hne : v.ownBlock ≠ some p.block) : w'.cell? p = some z := by
  rw [World.cell?_of_block (w := W) (h.same _ (World.block_lt_of_cell? W _ hc) hne)]; exact hc
theorem Pushed.frozen {B : Nat} {W : World} {v v' : Value} {xs : List Int} {y : Int} {w' : World} (h : Pushed B W v xs y v' w') {p : Addr} {z : Value} {f : Bool} (hc : W.cell? p = some z) (hf : W.frozen? p = f) (hne : v.ownBlock ≠ some p.block) : w'.frozen? p = f := by
  rw [World.frozen?_of_block (w := W) (h.same _ (World.block_lt_of_cell? W _ hc) hne)]; exact hf
end Go.Proofs.Ytonmgmhkejbikaa
