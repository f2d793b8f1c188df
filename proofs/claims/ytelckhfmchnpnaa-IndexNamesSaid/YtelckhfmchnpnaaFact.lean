/- What an operation of a region leaves: facts that stay while the region goes on. -/
import Derived.Test.YtelckhfmchnpnaaInv
namespace Go.Proofs.Ytelckhfmchnpnaa
open Go.RowKit
set_option linter.unusedVariables false
set_option linter.unusedSimpArgs false

/-- one world behind another: memory is laid, and blocks of type T are written -/
structure Ext (T : TypeId) (w w' : World) : Prop where
  size : w.heap.size ≤ w'.heap.size
  same : ∀ (k : Nat) (o : Obj), w.heap[k]? = some o → (∀ cs fr, o ≠ .cells cs T fr) → w'.heap[k]? = some o
  box : ∀ (k : Nat) (cs : Array Value) (fr : Nat × Nat), w.heap[k]? = some (.cells cs T fr) → ∃ cs', w'.heap[k]? = some (.cells cs' T fr) ∧ cs'.size = cs.size
theorem Ext.refl (T : TypeId) (w : World) : Ext T w w := ⟨Nat.le_refl _, fun _ _ h _ => h, fun _ cs _ h => ⟨cs, h, rfl⟩⟩
theorem Ext.below {T : TypeId} {w w' : World} (h : Below w.heap.size w w') : Ext T w w' :=
  ⟨h.size, fun k o hk _ => (h.block k (Array.getElem?_eq_some_iff.1 hk).1).trans hk, fun k cs fr hk => ⟨cs, (h.block k (Array.getElem?_eq_some_iff.1 hk).1).trans hk, rfl⟩⟩
theorem Ext.owns {T : TypeId} {w w' : World} (hE : Ext T w w') {base : Nat} {e : TypeId} {size : Nat} {v : Value} {n : Nat} {xs : List Value} (hne : e ≠ T) (h : w.ownsRow base e size v n xs) : w'.ownsRow base e size v n xs := by
  obtain ⟨h1, h2⟩ := h
  refine ⟨h1, ?_⟩
  rcases h2 with h2 | ⟨g, cap, cur, hv, hg, hh, r⟩
  · exact .inl h2
  · exact .inr ⟨g, cap, cur, hv, hg, hE.same _ _ hh (fun cs fr e => by cases e; exact hne rfl), r⟩

/-- a fact on a value and a world, that stays -/
structure Fact (T : TypeId) where
  holds : Value → World → Prop
  stays : ∀ v w w', Ext T w w' → holds v w → holds v w'
def Fact.any (T : TypeId) : Fact T := ⟨fun _ _ => True, fun _ _ _ _ _ => trivial⟩
/-- the value is known -/
def Fact.is {T : TypeId} (x : Value) : Fact T := ⟨fun v _ => v = x, fun _ _ _ _ h => h⟩
/-- a row of one's own -/
def Fact.row {T : TypeId} (base : Nat) (e : TypeId) (he : e ≠ T) (s n : Nat) (xs : List Value) : Fact T := ⟨fun v w => w.ownsRow base e s v n xs, fun _ _ _ h k => h.owns he k⟩
def Fact.agg2 {T : TypeId} (f g : Fact T) : Fact T := ⟨fun v w => ∃ x y, v = .agg #[x, y] ∧ f.holds x w ∧ g.holds y w, fun _ _ _ h ⟨x, y, e, h1, h2⟩ => ⟨x, y, e, f.stays _ _ _ h h1, g.stays _ _ _ h h2⟩⟩
def Fact.agg3 {T : TypeId} (f g k : Fact T) : Fact T := ⟨fun v w => ∃ x y z, v = .agg #[x, y, z] ∧ f.holds x w ∧ g.holds y w ∧ k.holds z w, fun _ _ _ h ⟨x, y, z, e, h1, h2, h3⟩ => ⟨x, y, z, e, f.stays _ _ _ h h1, g.stays _ _ _ h h2, k.stays _ _ _ h h3⟩⟩
/-- a box that was laid, of n cells -/
def Fact.box {T : TypeId} (base n : Nat) : Fact T := ⟨fun v w => ∃ b cs, v = .pointer (some ⟨b, 0, none⟩) ∧ base ≤ b ∧ w.heap[b]? = some (.cells cs T (0, 0)) ∧ cs.size = n,
  fun _ _ _ h ⟨b, cs, e, hb, hh, hn⟩ => by obtain ⟨cs', h1, h2⟩ := h.box _ _ _ hh; exact ⟨b, cs', e, hb, h1, by omega⟩⟩
/-- an empty row of one's own, that was laid without a cell -/
def Fact.empty {T : TypeId} (base : Nat) (e : TypeId) (he : e ≠ T) : Fact T := ⟨fun v w => ∃ g, v = .slice (some ⟨g, 0, none⟩) 0 0 ∧ w.ownsRow base e 1 v 0 [], fun _ _ _ h ⟨g, k1, k2⟩ => ⟨g, k1, h.owns he k2⟩⟩
def factAt {T : TypeId} (fs : List (Fact T)) (k : Nat) (v : Value) (w : World) : Prop := (fs.getD k (Fact.any T)).holds v w
theorem factAt_stays {T : TypeId} (fs : List (Fact T)) (k : Nat) (v : Value) (w w' : World) (h : Ext T w w') : factAt fs k v w → factAt fs k v w' := (fs.getD k (Fact.any T)).stays _ _ _ h

theorem owns_empty {w : World} {base k : Nat} {t : TypeId} (h : w.heap[k]? = some (.cells #[] t)) (hb : base ≤ k) : w.ownsRow base t 1 (.slice (some ⟨k, 0, none⟩) 0 0) 0 [] :=
  ⟨rfl, .inr ⟨k, 0, #[], rfl, hb, h, Nat.le_refl _, Nat.zero_le _, rfl, rfl⟩⟩

/-- a variable of n cells is read -/
theorem run_loadVar_many {P : Program} {w : World} {ty : TypeId} {d : TypeDesc} {b : Nat} (vs : List Value) (hu : P.underlying ty = some d) (hd : d.isRow = true) (hi : (P.info? ty).map (·.size) = some vs.length)
    (h : ∀ j x, vs[j]? = some x → w.cell? ⟨b, j, none⟩ = some x) : (loadVar ty ⟨b, 0, none⟩).run P w = .ok (.agg vs.toArray) w :=
  run_loadVar_mid w b 0 ty vs d (fun j x hj => by rw [Nat.zero_add]; exact h j x hj) hu hd hi
theorem three_at {w : World} {b : Nat} {x y z : Value} (h0 : w.cell? ⟨b, 0, none⟩ = some x) (h1 : w.cell? ⟨b, 1, none⟩ = some y) (h2 : w.cell? ⟨b, 2, none⟩ = some z) : ∀ j v, [x, y, z][j]? = some v → w.cell? ⟨b, j, none⟩ = some v := by
  intro j v hj
  match j with
  | 0 => simp at hj; rw [← hj]; exact h0
  | 1 => simp at hj; rw [← hj]; exact h1
  | 2 => simp at hj; rw [← hj]; exact h2
  | n + 3 => simp at hj
theorem alloc_new (w : World) (o : Obj) : (w.alloc o).heap[w.heap.size]? = some o := by unfold World.alloc; simp
/-- append onto such an empty row: nothing that was there turns -/
theorem wp_append_empty {P : Program} {w : World} {o : Oper} {a : Act} {K : Act → World → Prop} {Q : Exit → Act → World → Prop} (s x : Operand) (t e : TypeId) (z : Value) (bytes : Nat)
    (ht : P.underlying t = some (.slice e)) (hinfo : (P.info? e).map (fun i => (i.zero, i.size, i.bytes)) = some (some z, 1, bytes)) (hzs : z.cells.size = 1) (hbytes : bytes ≤ 1024)
    (base g : Nat) (ao : Option Addr) (m c : Nat) (news : List Value) (hown : w.ownsRow base e 1 (.slice (some ⟨g, 0, none⟩) 0 0) 0 [])
    (hl : news.length = m) (hnone : ao = none → m = 0 ∧ c = 0) (hnews : ∀ ad, ao = some ad → ∀ j u, news[j]? = some u → w.cell? (ad.add j) = some u) (h1 : ∀ u ∈ news, u.oneCell' = true)
    (hlen : m ≤ 4294967296) (hbase : base ≤ w.heap.size)
    (ho : o.op = .call { callee := .builtin .append, args := #[s, x], argTypes := #[t, t] }) (hs : a.eval s = .slice (some ⟨g, 0, none⟩) 0 0) (hx : a.eval x = .slice ao m c)
    (h : ∀ v' w', w'.ownsRow base e 1 v' m news → Below w.heap.size w w' → K (a.put o.dst v') w') : Oper.wp P o a w K Q := by
  obtain ⟨v', w', hr, h2, h3, _⟩ := run_append_x (P := P) w base t o.type e z 1 bytes ht hinfo hzs (by decide) (.slice (some ⟨g, 0, none⟩) 0 0) 0 [] hown ao m c news (by omega) hnone hnews h1 (by omega) hbytes hbase
  rw [Nat.zero_add, List.nil_append] at h2
  have hb : Below w.heap.size w w' := by
    obtain ⟨i, hi, hz, hsi, hby⟩ := info_parts hinfo
    cases ao with
    | none =>
      obtain ⟨rfl, rfl⟩ := hnone rfl
      have := run_append_owned_none (P := P) w base t o.type e i 1 ht hi _ 0 [] hown
      rw [hr] at this
      cases this
      exact Below.refl _ _
    | some ad =>
      by_cases hm : m = 0
      · subst hm
        obtain rfl : news = [] := List.eq_nil_of_length_eq_zero hl
        have := run_append_room_cells (P := P) w t o.type e i ht hi g 0 0 0 ad 0 c [] (by simp) (by simp) (by simp) (Nat.le_refl _) (by simp) (by simp)
        rw [hr] at this
        cases this
        exact Below.refl _ _
      · have := run_append_grow (P := P) w t o.type e i z ht hi hz ⟨g, 0, none⟩ 0 0 [] (by simp) (by simp) ad m c news (by rw [hsi]; omega) (hnews ad rfl) (by omega) (by omega) (growslice_fits (by omega) (by rw [hby, Nat.zero_add]; exact Nat.le_trans (Nat.mul_le_mul hlen hbytes) (by decide)))
        rw [hr] at this
        cases this
        exact (Below.refl _ _).drew.alloc (Nat.le_refl _) _
  unfold Oper.wp execOp
  simp only [ho, resolve, invoke, builtin, Sem.run_bind, Sem.run_pure, Result.andThen_ok, List.map_toArray, List.map_cons, List.map_nil, hs, hx, hr]
  exact h v' w' h2 hb
end Go.Proofs.Ytelckhfmchnpnaa
