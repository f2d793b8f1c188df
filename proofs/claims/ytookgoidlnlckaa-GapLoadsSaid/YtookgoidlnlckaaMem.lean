/- Laws on owned rows of cells, over any program: append with what becomes of the row's block, make, stores; and scopes with one label. -/
import Derived.Deep.MidRow
import Derived.Test.YtookgoidlnlckaaChecked
import Derived.WalkKit
import Derived.WalkSmall
import Derived.WalkLawsBesides
import Derived.BigQuiet
import Derived.Deep.QuietTactic
import Derived.Deep.LoopGhost
import Derived.Lib.Hide
import Derived.Lib.QuietBelow
import Derived.Outline
import Derived.ScopeJumps
import Derived.WalkMore
import Derived.StillTailTactics
import Derived.Deep.RegionLaw
import Derived.IntWalk
namespace Go.Proofs.Ytookgoidlnlckaa
open Go.RowKit

/-- the sizes of worlds, the cells of new blocks: what words.py's short words stand on -/
theorem szW : (∀ (w : World) (o : Obj), (w.alloc o).heap.size = w.heap.size + 1) ∧ (∀ (w : World) (a : Addr) (v : Value), (w.setCell a v).heap.size = w.heap.size) ∧ (∀ (w : World), w.drew.heap.size = w.heap.size) ∧ (∀ (w : World) (n : Nat), (w.drewN n).heap = w.heap) := ⟨World.size_alloc, World.size_setCell, World.size_drew, World.heap_drewN⟩
theorem ceW : (∀ (w : World) (o : Obj) (n i : Nat), n < w.heap.size → (w.alloc o).cell? ⟨n, i, none⟩ = w.cell? ⟨n, i, none⟩) ∧ (∀ (w : World) (c : Array Value) (t : TypeId) (n i : Nat), n = w.heap.size → (w.alloc (Obj.cells c t)).cell? ⟨n, i, none⟩ = c[i]?) ∧ (∀ (w : World) (o : Obj) (n i : Nat), n < w.heap.size → (w.alloc o).frozen? ⟨n, i, none⟩ = w.frozen? ⟨n, i, none⟩) ∧ (∀ (w : World) (c : Array Value) (t : TypeId) (n i : Nat), n = w.heap.size → (w.alloc (Obj.cells c t)).frozen? ⟨n, i, none⟩ = false) ∧ (∀ (w : World) (a b : Addr) (v : Value), (w.setCell a v).frozen? b = w.frozen? b) ∧ (∀ (w : World) (a : Addr), w.drew.cell? a = w.cell? a) ∧ (∀ (w : World) (a : Addr), w.drew.frozen? a = w.frozen? a) :=
  ⟨fun _ => World.cell?_alloc_past, fun _ => World.cell?_alloc_at, fun _ => World.frozen?_alloc_past, fun _ => World.frozen?_alloc_at, World.frozen?_setCell, World.cell?_drew, World.frozen?_drew⟩

section
variable {P : Program}

/-- append, with what becomes of the row's block: it is the old one, or a new one -/
theorem run_append_x (w : World) (base : Nat) (t ty e : TypeId) (z : Value) (size bytes : Nat) (ht : P.underlying t = some (.slice e))
    (hinfo : (P.info? e).map (fun i => (i.zero, i.size, i.bytes)) = some (some z, size, bytes)) (hzs : z.cells.size = size) (hsz : 0 < size)
    (v : Value) (n : Nat) (xs : List Value) (hown : w.ownsRow base e size v n xs)
    (ao : Option Addr) (m c : Nat) (news : List Value) (hl : news.length = m * size) (hnone : ao = none → m = 0 ∧ c = 0)
    (hnews : ∀ ad, ao = some ad → ∀ j u, news[j]? = some u → w.cell? (ad.add j) = some u) (h1 : ∀ u ∈ news, u.oneCell' = true)
    (h63 : n + m ≤ 4294967296) (hbytes : bytes ≤ 1024) (hbase : base ≤ w.heap.size) :
    ∃ v' w', (Builtin.append_ #[t, t] ty #[v, .slice ao m c]).run P w = .ok v' w' ∧ w'.ownsRow base e size v' (n + m) (xs ++ news) ∧ w.grownBy w' v.ownBlock ∧
      (v'.ownBlock = v.ownBlock ∨ ∀ k, v'.ownBlock = some k → w.heap.size ≤ k) := by
  obtain ⟨i, hi, hz, hs, hb⟩ := info_parts hinfo
  have hm1 : n + m ≤ maxLen := by unfold maxLen; omega
  have hm2 : (n + m) * bytes ≤ 140737488355328 := Nat.le_trans (Nat.mul_le_mul h63 hbytes) (by decide)
  cases ao with
  | none =>
    obtain ⟨rfl, rfl⟩ := hnone rfl
    have hn : news = [] := List.eq_nil_of_length_eq_zero (by simpa using hl)
    subst hn
    refine ⟨v, w, run_append_owned_none w base t ty e i size ht hi v n xs hown, by simpa using hown, World.grownBy.refl _ _, .inl rfl⟩
  | some ad =>
    have hc := hnews ad rfl
    obtain ⟨v', w', hr, ho, hg, _⟩ := run_append_own (P := P) w base t ty e i z size bytes ht hi hz hs hb hzs hsz v n xs hown ad m c news hl hc h1 hm1 hm2 hbase
    refine ⟨v', w', hr, ho, hg, ?_⟩
    obtain ⟨hx, ⟨rfl, rfl⟩ | ⟨g, cap, cur, rfl, hbg, hgg, hnc, hcm, hcs, htake⟩⟩ := hown
    · have hx0 : xs = [] := List.eq_nil_of_length_eq_zero (by simpa using hx)
      subst hx0
      obtain ⟨v2, w2, hr2, ho2, _, _⟩ := run_append_own (P := P) w w.heap.size t ty e i z size bytes ht hi hz hs hb hzs hsz (.slice none 0 0) 0 [] (World.ownsRow_nil w _ e size) ad m c news hl hc h1 hm1 hm2 (Nat.le_refl _)
      rw [hr] at hr2
      cases hr2
      exact .inr fun k hk => (ho2.lt k hk).1
    · by_cases hroom : n + m ≤ cap
      · obtain ⟨w2, hr2, _⟩ := run_append_fits (P := P) w base t ty e i size ht hi hs g n cap xs ⟨hx, .inr ⟨g, cap, cur, rfl, hbg, hgg, hnc, hcm, hcs, htake⟩⟩ ad m c news hl hc h1 hroom
        rw [hr] at hr2
        cases hr2
        exact .inl rfl
      · have holds := World.ownsRow.cells (w := w) (base := base) (e := e) (size := size) (n := n) (xs := xs) ⟨hx, .inr ⟨g, cap, cur, rfl, hbg, hgg, hnc, hcm, hcs, htake⟩⟩ (g := g) rfl
        have hr2 := run_append_grow (P := P) w t ty e i z ht hi hz ⟨g, 0, none⟩ n cap xs (by rw [hs]; exact hx) holds ad m c news (by rw [hs]; exact hl) hc (by omega) (by omega) (growslice_fits (by omega) (by rw [hb]; exact hm2))
        rw [hr] at hr2
        cases hr2
        exact .inr fun k hk => by cases hk; exact Nat.le_refl _

/-- 'append(xs, ys...)' onto a row of the call's own -/
theorem wpl_append {w : World} {ops : Array Oper} {rest : List Oper} {o : Oper} {a : Act} {Q : Exit → Act → World → Prop} (s x : Operand) (t e : TypeId) (z : Value) (size bytes : Nat)
    (ht : P.underlying t = some (.slice e)) (hinfo : (P.info? e).map (fun i => (i.zero, i.size, i.bytes)) = some (some z, size, bytes)) (hzs : z.cells.size = size) (hsz : 0 < size) (hbytes : bytes ≤ 1024)
    (B : Nat) (v : Value) (n : Nat) (xs : List Value) (ao : Option Addr) (m c : Nat) (news : List Value)
    (hown : w.ownsRow B e size v n xs) (hl : news.length = m * size) (hnone : ao = none → m = 0 ∧ c = 0)
    (hnews : ∀ ad, ao = some ad → ∀ j u, news[j]? = some u → w.cell? (ad.add j) = some u) (h1 : ∀ u ∈ news, u.oneCell' = true)
    (hlen : n + m ≤ 4294967296) (hbase : B ≤ w.heap.size)
    (hgd : o.guard = none) (ho : o.op = .call { callee := .builtin .append, args := #[s, x], argTypes := #[t, t] })
    (hs : a.eval s = v) (hx : a.eval x = .slice ao m c)
    (h : ∀ v' w', w'.ownsRow B e size v' (n + m) (xs ++ news) → w.grownBy w' v.ownBlock → (v'.ownBlock = v.ownBlock ∨ ∀ k, v'.ownBlock = some k → w.heap.size ≤ k) → wpList P ops Q rest (a.put o.dst v') w') :
    wpList P ops Q (o :: rest) a w := by
  refine wpList_plain hgd fun K hK => ?_
  obtain ⟨v', w', hr, h2, h3, h4⟩ := run_append_x (P := P) w B t o.type e z size bytes ht hinfo hzs hsz v n xs hown ao m c news hl hnone hnews h1 hlen hbytes hbase
  unfold Oper.wp execOp
  simp only [ho, resolve, invoke, builtin, Sem.run_bind, Sem.run_pure, Result.andThen_ok, List.map_toArray, List.map_cons, List.map_nil, hs, hx, hr]
  exact hK _ _ (h v' w' h2 h3 h4)

end

/-- what a call owned stays owned where nothing that was there has turned -/
theorem owns_below {w w' : World} {base : Nat} {e : TypeId} {size : Nat} {v : Value} {n : Nat} {xs : List Value}
    (h : w.ownsRow base e size v n xs) (hb : Below w.heap.size w w') : w'.ownsRow base e size v n xs := by
  obtain ⟨h1, h2⟩ := h
  refine ⟨h1, ?_⟩
  rcases h2 with h2 | ⟨g, cap, cur, hv, hg, hh, r⟩
  · exact .inl h2
  · exact .inr ⟨g, cap, cur, hv, hg, by rw [hb.block g (Array.getElem?_eq_some_iff.1 hh).1]; exact hh, r⟩

theorem owns_base {w : World} {base base' : Nat} {e : TypeId} {size : Nat} {v : Value} {n : Nat} {xs : List Value}
    (h : w.ownsRow base e size v n xs) (hb : base' ≤ base) : w.ownsRow base' e size v n xs := by
  obtain ⟨h1, h2⟩ := h
  refine ⟨h1, ?_⟩
  rcases h2 with h2 | ⟨g, cap, cur, hv, hg, r⟩
  · exact .inl h2
  · exact .inr ⟨g, cap, cur, hv, by omega, r⟩

/-- rows of two types lie in two blocks -/
theorem owns_apart {w : World} {b1 b2 : Nat} {e1 e2 : TypeId} {s1 s2 : Nat} {v1 v2 : Value} {n1 n2 : Nat} {xs1 xs2 : List Value}
    (h1 : w.ownsRow b1 e1 s1 v1 n1 xs1) (h2 : w.ownsRow b2 e2 s2 v2 n2 xs2) (hne : e1 ≠ e2) : v1.ownBlock = none ∨ v1.ownBlock ≠ v2.ownBlock := by
  obtain ⟨_, ⟨rfl, _⟩ | ⟨g1, c1, cur1, rfl, _, hh1, _⟩⟩ := h1
  · exact .inl rfl
  · obtain ⟨_, ⟨rfl, _⟩ | ⟨g2, c2, cur2, rfl, _, hh2, _⟩⟩ := h2
    · exact .inr (by simp [Value.ownBlock])
    · refine .inr fun e => ?_
      simp only [Value.ownBlock, Option.some.injEq] at e
      subst e
      rw [hh1] at hh2
      cases hh2
      exact hne rfl

/-- a row's block is older than a bound -/
theorem owns_lt {w : World} {b1 : Nat} {e1 : TypeId} {s1 : Nat} {v1 : Value} {n1 : Nat} {xs1 : List Value} (h1 : w.ownsRow b1 e1 s1 v1 n1 xs1) {k : Nat} (hk : v1.ownBlock = some k) : b1 ≤ k ∧ k < w.heap.size := h1.lt k hk

/-- a variable of one cell is read -/
theorem run_loadVar_one {P : Program} {w : World} {ty : TypeId} {d : TypeDesc} {a : Addr} {v : Value} (hu : P.underlying ty = some d) (hd : (match d with | .struct _ | .array _ _ => true | _ => false) = false) (hc : w.cell? a = some v) :
    (loadVar ty a).run P w = .ok v w := by
  have hagg : (isAgg ty).run P w = .ok false w := by
    unfold isAgg
    rw [Sem.run_bind, run_underlying hu w]
    cases d <;> simp_all
  simp [loadVar, Sem.run_bind, hagg, hc, Result.andThen]

theorem results_c {P : Program} {fn : Func} {p : Tmp} {ty : TypeId} (h : fn.results = #[.cell p ty]) {t : Array Value} {w : World} {a : Addr} {v : Value}
    (hp : t.getD p undef = .pointer (some a)) (hv : (loadVar ty a).run P w = .ok v w) : (results fn t).run P w = .ok v w := by
  have hp' : t[p]?.getD undef = .pointer (some a) := by simpa using hp
  simp [results, h, hp', asAddr, hv]
theorem results_ct {P : Program} {fn : Func} {p q : Tmp} {ty : TypeId} (h : fn.results = #[.cell p ty, .tmp q]) {t : Array Value} {w : World} {a : Addr} {v : Value}
    (hp : t.getD p undef = .pointer (some a)) (hv : (loadVar ty a).run P w = .ok v w) :
    (results fn t).run P w = .ok (.tuple #[v, t.getD q undef]) w := by
  have hp' : t[p]?.getD undef = .pointer (some a) := by simpa using hp
  simp [results, h, hp', asAddr, hv]
/-- the cells of a block that was just laid -/
theorem new_cells (w : World) (vs : List Value) (t : TypeId) (k : Nat) (hk : k = w.heap.size) :
    ∀ ad, some (⟨k, 0, none⟩ : Addr) = some ad → ∀ j u, vs[j]? = some u → (w.alloc (.cells vs.toArray t)).cell? (ad.add j) = some u := by
  intro ad had j u hj
  cases had
  subst hk
  rw [Addr.add_lit, Nat.zero_add, World.cell?_alloc_at _ _ _ _ rfl]
  simpa using hj

/-- a frame of which only some slots are told: the others as they come -/
theorem frame_mk (F : (Nat → Value) → Array Value) (t : Array Value) (ds : List Deferred) (h : F (fun i => t.getD i undef) = t) : ∃ u, ({ tmps := t, defers := ds } : Act) = { tmps := F u, defers := ds } :=
  ⟨_, by rw [h]⟩

/-- A scope with one label: J is what holds at each jump to it (and where the run first comes to it), the number lowered by every pass. -/
theorem wp_scope_loop {P : Program} {c B : Code} (l : Nat) {Q : Exit → Act → World → Prop} {a : Act} {w : World} (J : Nat → Act → World → Prop) (hf : findLabel c l = some (.seq .skip B))
    (pass : ∀ n a w, J n a w → ∀ H : Act → World → Prop, (∀ k a' w', k < n → J k a' w' → H a' w') → B.wp P (Exit.jump l H Q) a w)
    (first : ∀ H : Act → World → Prop, (∀ k a' w', J k a' w' → H a' w') → (∀ k a' w', J k a' w' → B.wp P (Exit.jump l H Q) a' w') → c.wp P (Exit.jump l H Q) a w) :
    (Code.scope c).wp P Q a w := by
  refine wp_scope_jumps l (fun a w => ∃ n, J n a w) (fun a w => leastOf (fun n => J n a w)) hf ?_ ?_
  · exact first _ (fun k a' w' h => ⟨k, h⟩) (fun k a' w' h => Code.wp_mono (fun e a w q => q) (pass k a' w' h _ (fun k a' w' _ h => ⟨k, h⟩)))
  · intro a w hJ
    refine wp_seq (wp_skip ?_)
    refine pass _ a w (leastOf_spec hJ).1 _ ?_
    intro k a' w' hk h
    exact ⟨⟨k, h⟩, Nat.lt_of_le_of_lt ((leastOf_spec ⟨k, h⟩).2 k h) hk⟩
theorem heap_setCell_ne (w : World) (a : Addr) (v : Value) {k : Nat} (h : k ≠ a.block) : (w.setCell a v).heap[k]? = w.heap[k]? := by
  simp only [World.setCell, Array.getElem?_modify]
  rw [if_neg (fun e => h e.symm)]
theorem owns_heap {W W' : World} {base : Nat} {e : TypeId} {size : Nat} {v : Value} {n : Nat} {xs : List Value} (ho : W.ownsRow base e size v n xs) (hh : ∀ k, v.ownBlock = some k → W'.heap[k]? = W.heap[k]?) : W'.ownsRow base e size v n xs := by
  obtain ⟨h1, h2⟩ := ho
  refine ⟨h1, ?_⟩
  rcases h2 with h2 | ⟨g, cap, cur, hv, hg, hp, r⟩
  · exact .inl h2
  · exact .inr ⟨g, cap, cur, hv, hg, (hh g (by rw [hv]; rfl)).trans hp, r⟩
/-- a variable of two cells is read -/
theorem run_loadVar_two {P : Program} {w : World} {ty : TypeId} {d : TypeDesc} {b : Nat} {v u : Value} (hu : P.underlying ty = some d) (hd : d.isRow = true) (hi : (P.info? ty).map (·.size) = some 2)
    (h0 : w.cell? ⟨b, 0, none⟩ = some v) (h1 : w.cell? ⟨b, 1, none⟩ = some u) : (loadVar ty ⟨b, 0, none⟩).run P w = .ok (.agg #[v, u]) w :=
  run_loadVar_mid w b 0 ty [v, u] d (fun j x hj => by
    match j with
    | 0 => simp at hj; rw [← hj]; exact h0
    | 1 => simp at hj; rw [← hj]; exact h1
    | n + 2 => simp at hj) hu hd hi
end Go.Proofs.Ytookgoidlnlckaa
