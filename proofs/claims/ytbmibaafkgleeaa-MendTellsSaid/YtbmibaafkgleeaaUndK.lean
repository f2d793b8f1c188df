/- Merged: Under, Keys. -/
import Derived.Test.YtbmibaafkgleeaaMendPT
import Derived.Test.YtbmibaafkgleeaaVebPlace
import Derived.Test.YtbmibaafkgleeaaTwoAll
import Derived.Test.YtbmibaafkgleeaaHeapUF
import Derived.Maps.RangeWalk
import Derived.Maps.OwnSet
import Derived.Maps.OwnOps
import Derived.Maps.Views
namespace Go.Proofs.Ytbmibaafkgleeaa
set_option linter.unusedVariables false
set_option linter.unusedSimpArgs false
section
open Go.RowKit Go.Shelf
attribute [local go_sem] Oper.semAt_some

/-- nothing turns that was there, but in some blocks -/
structure Tn (S : Nat → Prop) (W W' : World) : Prop where
  os : W'.os = W.os
  tape : W'.tape = W.tape
  output : W'.output = W.output
  size : W.heap.size ≤ W'.heap.size
  keep : ∀ q, q < W.heap.size → ¬ S q → W'.heap[q]? = W.heap[q]?
theorem Tn.refl (S : Nat → Prop) (W : World) : Tn S W W := ⟨rfl, rfl, rfl, Nat.le_refl _, fun _ _ _ => rfl⟩
theorem Tn.trans {S : Nat → Prop} {X Y Z : World} (h : Tn S X Y) (k : Tn S Y Z) : Tn S X Z :=
  ⟨k.os.trans h.os, k.tape.trans h.tape, k.output.trans h.output, Nat.le_trans h.size k.size, fun q hq hs => (k.keep q (Nat.lt_of_lt_of_le hq h.size) hs).trans (h.keep q hq hs)⟩
theorem Tn.of_below {S : Nat → Prop} {W W' : World} (h : Below W.heap.size W W') : Tn S W W' := ⟨h.os, h.tape, h.output, h.size, fun q hq _ => h.block q hq⟩
theorem Tn.of_grown {S : Nat → Prop} {W W' : World} {b : Nat} (h : W.grownBy W' (some b)) (hb : S b) : Tn S W W' := ⟨h.os, h.tape, h.output, h.size, fun q hq hs => h.block q hq (fun e => hs (by cases e; exact hb))⟩
theorem Tn.grown0 {S : Nat → Prop} {W W' : World} (h : W.grownBy W' none) : Tn S W W' := ⟨h.os, h.tape, h.output, h.size, fun q hq _ => h.block q hq (by simp)⟩
theorem Tn.wide {S T : Nat → Prop} {W W' : World} (h : Tn S W W') (hst : ∀ q, S q → T q) : Tn T W W' := ⟨h.os, h.tape, h.output, h.size, fun q hq hs => h.keep q hq (fun e => hs (hst q e))⟩
theorem Tn.setCell {S : Nat → Prop} {W W' : World} (h : Tn S W W') {a : Addr} (ha : S a.block) (v : Value) : Tn S W (W'.setCell a v) :=
  ⟨h.os, h.tape, h.output, by simp only [World.size_setCell]; exact h.size, fun q hq hs => (Below.heap_setCell _ _ _ _ (fun e => hs (by rw [e]; exact ha))).trans (h.keep q hq hs)⟩
theorem Tn.drewN {S : Nat → Prop} {W W' : World} (h : Tn S W W') (n : Nat) : Tn S W (W'.drewN n) := ⟨h.os, h.tape, h.output, h.size, h.keep⟩
theorem Tn.drew {S : Nat → Prop} {W W' : World} (h : Tn S W W') : Tn S W W'.drew := ⟨h.os, h.tape, h.output, h.size, h.keep⟩
theorem Tn.cell {S : Nat → Prop} {W W' : World} (h : Tn S W W') {a : Addr} {v : Value} (hs : ¬ S a.block) (hc : W.cell? a = some v) : W'.cell? a = some v := by
  rw [World.cell?_of_block (w := W) (h.keep _ (World.block_lt_of_cell? _ _ hc) hs)]; exact hc
theorem Tn.frozen {S : Nat → Prop} {W W' : World} (h : Tn S W W') {a : Addr} {x : Bool} (hl : a.block < W.heap.size) (hs : ¬ S a.block) (hf : W.frozen? a = x) : W'.frozen? a = x := by
  rw [World.frozen?_of_block (w := W) (h.keep _ hl hs)]; exact hf
theorem Tn.below {S : Nat → Prop} {W W' : World} (h : Tn S W W') {B : Nat} (hS : ∀ q, S q → B ≤ q) {w : World} (hb : Below B w W) (hB : B ≤ W.heap.size) : Below B w W' :=
  ⟨h.os.trans hb.os, h.tape.trans hb.tape, h.output.trans hb.output, Nat.le_trans hb.size h.size, fun q hq => (h.keep q (by omega) (fun e => by have := hS q e; omega)).trans (hb.block q hq)⟩
theorem Tn.owns {S : Nat → Prop} {W W' : World} (h : Tn S W W') {B : Nat} {e : TypeId} {s : Nat} {v : Value} {n : Nat} {xs : List Value} (ho : W.ownsRow B e s v n xs) (hs : ∀ k, v.ownBlock = some k → ¬ S k) : W'.ownsRow B e s v n xs :=
  owns_heap ho fun k hk => h.keep k (ho.lt k hk).2 (hs k hk)

/-- an index that is turned, in its box -/
structure UndS (B : Nat) (W : World) (U g1 g2 N k1 k2 L : Nat) (f g : Nat → Int) : Prop where
  c0 : W.cell? ⟨U, 0, none⟩ = some (.int .i64 L)
  c1 : W.cell? ⟨U, 1, none⟩ = some (.slice (some ⟨g1, 0, none⟩) N k1)
  c2 : W.cell? ⟨U, 2, none⟩ = some (.slice (some ⟨g2, 0, none⟩) N k2)
  o1 : W.ownsRow B 2 1 (.slice (some ⟨g1, 0, none⟩) N k1) N (((lay L 1).map f).map (Value.int .i64))
  o2 : W.ownsRow B 3 1 (.slice (some ⟨g2, 0, none⟩) N k2) N (((lay L 1).map g).map (Value.int .i64))
  n1 : U ≠ g1
  n2 : U ≠ g2
  n3 : g1 ≠ g2
theorem UndS.tn {B : Nat} {W W' : World} {U g1 g2 N k1 k2 L : Nat} {f g : Nat → Int} (h : UndS B W U g1 g2 N k1 k2 L f g) {S : Nat → Prop} (t : Tn S W W') (hU : ¬ S U) (h1 : ¬ S g1) (h2 : ¬ S g2) : UndS B W' U g1 g2 N k1 k2 L f g :=
  ⟨t.cell hU h.c0, t.cell hU h.c1, t.cell hU h.c2, t.owns h.o1 (fun k hk => by cases hk; exact h1), t.owns h.o2 (fun k hk => by cases hk; exact h2), h.n1, h.n2, h.n3⟩
theorem UndS.eqv {B : Nat} {W : World} {U g1 g2 N k1 k2 L : Nat} {f g f' g' : Nat → Int} (h : UndS B W U g1 g2 N k1 k2 L f g) (hL : 1 ≤ L) (e1 : ∀ n, n ≠ 0 → f' n = f n) (e2 : ∀ n, n ≠ 0 → g' n = g n) : UndS B W U g1 g2 N k1 k2 L f' g' := by
  have hm : ∀ n ∈ lay L 1, n ≠ 0 := fun n hn => by have := lay_mem L L 1 (Nat.le_refl _) hL n hn; omega
  refine ⟨h.c0, h.c1, h.c2, ?_, ?_, h.n1, h.n2, h.n3⟩
  · rw [List.map_congr_left (fun n hn => e1 n (hm n hn))]; exact h.o1
  · rw [List.map_congr_left (fun n hn => e2 n (hm n hn))]; exact h.o2

/-- a row of one's own -/
def RN (B g N c : Nat) (e : TypeId) (xs : List Int) (w : World) : Prop := w.ownsRow B e 1 (.slice (some ⟨g, 0, none⟩) N c) N (xs.map (Value.int .i64))
/-- between two stores -/
def JT (B g1 g2 N k1 k2 : Nat) (X : World) (xs ys : List Int) (p : Nat) (m k : Int) (w : World) : Prop :=
  Tn (fun q => q = g1 ∨ q = g2) X w ∧ (RN B g1 N k1 2 xs w ∨ RN B g1 N k1 2 (xs.set p m) w) ∧ (RN B g2 N k2 3 ys w ∨ RN B g2 N k2 3 (ys.set p k) w)
theorem RN.other {B g N c : Nat} {e : TypeId} {xs : List Int} {w : World} (h : RN B g N c e xs w) {a : Addr} (hne : g ≠ a.block) (v : Value) : RN B g N c e xs (w.setCell a v) :=
  owns_heap h fun q hq => Below.heap_setCell _ _ _ _ (by cases hq; exact hne)
theorem rn_set {B g N c : Nat} {e : TypeId} {xs : List Int} {w : World} {p : Nat} {m : Int} (h : RN B g N c e xs w ∨ RN B g N c e (xs.set p m) w) : RN B g N c e (xs.set p m) (w.setCell ⟨g, p, none⟩ (.int .i64 m)) := by
  rcases h with h | h
  · exact own_set h p m
  · have := own_set h p m
    rw [List.set_set] at this
    exact this
theorem rn_cell {B g N c : Nat} {e : TypeId} {xs : List Int} {w : World} {p : Nat} {m : Int} (h : RN B g N c e xs w ∨ RN B g N c e (xs.set p m) w) (hp : p < xs.length) : ∃ y, w.cell? ⟨g, p, none⟩ = some (.int .i64 y) ∧ w.frozen? ⟨g, p, none⟩ = false := by
  rcases h with h | h
  · exact ⟨_, own_cell h hp⟩
  · exact ⟨_, own_cell h (by rw [List.length_set]; exact hp)⟩
theorem jt_one {B g1 g2 N k1 k2 : Nat} {X : World} {xs ys : List Int} {p : Nat} {m k : Int} {w : World} (h : JT B g1 g2 N k1 k2 X xs ys p m k w) (hp : p < xs.length) (hne : g1 ≠ g2) :
    ∃ y, w.cell? ⟨g1, p, none⟩ = some (.int .i64 y) ∧ w.frozen? ⟨g1, p, none⟩ = false ∧ JT B g1 g2 N k1 k2 X xs ys p m k (w.setCell ⟨g1, p, none⟩ (.int .i64 m)) ∧ RN B g1 N k1 2 (xs.set p m) (w.setCell ⟨g1, p, none⟩ (.int .i64 m)) ∧
      ((RN B g1 N k1 2 (xs.set p m) w → RN B g1 N k1 2 (xs.set p m) (w.setCell ⟨g1, p, none⟩ (.int .i64 m))) ∧ (RN B g2 N k2 3 (ys.set p k) w → RN B g2 N k2 3 (ys.set p k) (w.setCell ⟨g1, p, none⟩ (.int .i64 m)))) := by
  obtain ⟨h1, h2, h3⟩ := h
  obtain ⟨y, c, f⟩ := rn_cell h2 hp
  exact ⟨y, c, f, ⟨h1.setCell (.inl rfl) _, .inr (rn_set h2), h3.imp (fun h => h.other (fun e => hne e.symm) _) (fun h => h.other (fun e => hne e.symm) _)⟩, rn_set h2, fun _ => rn_set h2, fun h => h.other (fun e => hne e.symm) _⟩
theorem jt_two {B g1 g2 N k1 k2 : Nat} {X : World} {xs ys : List Int} {p : Nat} {m k : Int} {w : World} (h : JT B g1 g2 N k1 k2 X xs ys p m k w) (hp : p < ys.length) (hne : g1 ≠ g2) :
    ∃ y, w.cell? ⟨g2, p, none⟩ = some (.int .i64 y) ∧ w.frozen? ⟨g2, p, none⟩ = false ∧ JT B g1 g2 N k1 k2 X xs ys p m k (w.setCell ⟨g2, p, none⟩ (.int .i64 k)) ∧ RN B g2 N k2 3 (ys.set p k) (w.setCell ⟨g2, p, none⟩ (.int .i64 k)) ∧
      ((RN B g1 N k1 2 (xs.set p m) w → RN B g1 N k1 2 (xs.set p m) (w.setCell ⟨g2, p, none⟩ (.int .i64 k))) ∧ (RN B g2 N k2 3 (ys.set p k) w → RN B g2 N k2 3 (ys.set p k) (w.setCell ⟨g2, p, none⟩ (.int .i64 k)))) := by
  obtain ⟨h1, h2, h3⟩ := h
  obtain ⟨y, c, f⟩ := rn_cell h3 hp
  exact ⟨y, c, f, ⟨h1.setCell (.inr rfl) _, h2.imp (fun h => h.other hne _) (fun h => h.other hne _), .inr (rn_set h3)⟩, rn_set h3, fun h => h.other hne _, fun _ => rn_set h3⟩

set_option maxRecDepth 100000 in
set_option maxHeartbeats 1000000 in
theorem told_ok {B : Nat} {W : World} {U g1 g2 N k1 k2 L : Nat} {f g : Nat → Int} (h : UndS B W U g1 g2 N k1 k2 L f g) (hL1 : 1 ≤ L) (hL2 : L ≤ 14) (hN : N + 1 = 2 ^ L) (n : Nat) (n1 : 1 ≤ n) (n2 : n < 2 ^ L) :
    Calls Try.prog 77 #[.pointer (some ⟨U, 0, none⟩), .int .i64 n] W fun e w' => e = .returned (.tuple #[.int .i64 (f n), .int .i64 (g n)]) ∧ Below W.heap.size W w' := by
  have hnd : ndE (L : Int) (n : Int) = 0 := by
    have : (2 : Int) ^ ((L : Int)).toNat = ((2 ^ L : Nat) : Int) := by rw [Int.toNat_natCast]; push_cast; rfl
    exact if_pos ⟨by omega, by omega, by rw [this]; omega⟩
  obtain ⟨p, hp⟩ : ∃ p : Nat, vpos L n = p := ⟨_, rfl⟩
  have hpN : p < N := by have := (vpos_lay hL1 n1 n2).1; omega
  have hvp : vpR (L : Int) (n : Int) = (p : Int) := by rw [vpR, if_pos hnd, Int.toNat_natCast, Int.toNat_natCast, hp]
  have PL := Lib.hid (fun w => Place_any (L : Int) (n : Int) w)
  rw [hvp, hnd] at PL
  have hl := lay_len 1 hL1
  have d1 := (own_cell h.o1 (j := p) (by simp; omega)).1
  have d2 := (own_cell h.o2 (j := p) (by simp; omega)).1
  rw [← hp, lay_get hL1 f n1 n2] at d1
  rw [← hp, lay_get hL1 g n1 n2] at d2
  rw [hp] at d1 d2
  have c0 := h.c0
  have c1 := h.c1
  have c2 := h.c2
  generalize f n = X at *
  generalize g n = Y at *
  clear hnd hp hvp hl h hN n2
  go_enter Try.func77, Try.ntmps77
  go_wp2_with fail
  refine (PL.out W).mono ?_
  rintro e w1 ⟨rfl, hb1⟩
  replace c0 := (hb1.cell (World.block_lt_of_cell? _ _ c0)).trans c0
  replace c1 := (hb1.cell (World.block_lt_of_cell? _ _ c1)).trans c1
  replace c2 := (hb1.cell (World.block_lt_of_cell? _ _ c2)).trans c2
  replace d1 := (hb1.cell (World.block_lt_of_cell? _ _ d1)).trans d1
  replace d2 := (hb1.cell (World.block_lt_of_cell? _ _ d2)).trans d2
  have HB := Lib.hid hb1
  clear hb1
  go_wp2
  go_big_quiet (fail)
  go_wp2
  go_ret2
  exact ⟨rfl, below_drewN HB.out _⟩

set_option maxRecDepth 100000 in
set_option maxHeartbeats 1000000 in
theorem tell_ok {B : Nat} {W : World} {U g1 g2 N k1 k2 L : Nat} {f g : Nat → Int} (h : UndS B W U g1 g2 N k1 k2 L f g) (hL1 : 1 ≤ L) (hL2 : L ≤ 14) (hN : N + 1 = 2 ^ L) (n : Nat) (n1 : 1 ≤ n) (n2 : n < 2 ^ L) (m k : Int) :
    Calls Try.prog 41 #[.pointer (some ⟨U, 0, none⟩), .int .i64 n, .int .i64 m, .int .i64 k] W fun e w' => (∃ v, e = .returned v) ∧ Tn (fun q => q = g1 ∨ q = g2) W w' ∧ UndS B w' U g1 g2 N k1 k2 L (upd f n m) (upd g n k) := by
  have hnd : ndE (L : Int) (n : Int) = 0 := by
    have : (2 : Int) ^ ((L : Int)).toNat = ((2 ^ L : Nat) : Int) := by rw [Int.toNat_natCast]; push_cast; rfl
    exact if_pos ⟨by omega, by omega, by rw [this]; omega⟩
  obtain ⟨p, hp⟩ : ∃ p : Nat, vpos L n = p := ⟨_, rfl⟩
  have hpN : p < N := by have := (vpos_lay hL1 n1 n2).1; omega
  have hvp : vpR (L : Int) (n : Int) = (p : Int) := by rw [vpR, if_pos hnd, Int.toNat_natCast, Int.toNat_natCast, hp]
  have PL := Lib.hid (fun w => Place_any (L : Int) (n : Int) w)
  rw [hvp, hnd] at PL
  have hl := lay_len 1 hL1
  have S1 := Lib.hid (lay_set hL1 f n1 n2 m)
  have S2 := Lib.hid (lay_set hL1 g n1 n2 k)
  rw [hp] at S1 S2
  have HU := Lib.hid h
  have hpl : p < ((lay L 1).map f).length := by rw [List.length_map]; omega
  have hpl' : p < ((lay L 1).map g).length := by rw [List.length_map]; omega
  have hpN2 : p < N := hpN
  clear hnd hp hvp hN n2 hpN
  go_enter Try.func41, Try.ntmps41
  have c0 := HU.out.c0
  go_wp2_with fail
  refine (PL.out W).mono ?_
  rintro e w1 ⟨rfl, hb1⟩
  have h1 : UndS B w1 U g1 g2 N k1 k2 L f g := HU.out.tn (Tn.of_below (S := fun _ => False) hb1) (fun h => h) (fun h => h) (fun h => h)
  replace c0 := h1.c0
  have c1 := h1.c1
  have c2 := h1.c2
  have n3 := h1.n3
  have HT := Lib.hid (Tn.of_below (S := fun q => q = g1 ∨ q = g2) hb1)
  have H1 := Lib.hid h1
  clear hb1 h1 HU PL
  have hu : Hid (¬ (U = g1 ∨ U = g2)) := Lib.hid fun h => h.elim H1.out.n1 H1.out.n2
  have ST1 : Hid (∀ w', JT B g1 g2 N k1 k2 w1 ((lay L 1).map f) ((lay L 1).map g) p m k w' → ∃ y, w'.cell? ⟨g1, p, none⟩ = some (.int .i64 y) ∧ w'.frozen? ⟨g1, p, none⟩ = false ∧ JT B g1 g2 N k1 k2 w1 ((lay L 1).map f) ((lay L 1).map g) p m k (w'.setCell ⟨g1, p, none⟩ (.int .i64 m)) ∧ RN B g1 N k1 2 (((lay L 1).map f).set p m) (w'.setCell ⟨g1, p, none⟩ (.int .i64 m)) ∧ ((RN B g1 N k1 2 (((lay L 1).map f).set p m) w' → RN B g1 N k1 2 (((lay L 1).map f).set p m) (w'.setCell ⟨g1, p, none⟩ (.int .i64 m))) ∧ (RN B g2 N k2 3 (((lay L 1).map g).set p k) w' → RN B g2 N k2 3 (((lay L 1).map g).set p k) (w'.setCell ⟨g1, p, none⟩ (.int .i64 m))))) := Lib.hid fun w' h => jt_one h hpl n3
  have ST2 : Hid (∀ w', JT B g1 g2 N k1 k2 w1 ((lay L 1).map f) ((lay L 1).map g) p m k w' → ∃ y, w'.cell? ⟨g2, p, none⟩ = some (.int .i64 y) ∧ w'.frozen? ⟨g2, p, none⟩ = false ∧ JT B g1 g2 N k1 k2 w1 ((lay L 1).map f) ((lay L 1).map g) p m k (w'.setCell ⟨g2, p, none⟩ (.int .i64 k)) ∧ RN B g2 N k2 3 (((lay L 1).map g).set p k) (w'.setCell ⟨g2, p, none⟩ (.int .i64 k)) ∧ ((RN B g1 N k1 2 (((lay L 1).map f).set p m) w' → RN B g1 N k1 2 (((lay L 1).map f).set p m) (w'.setCell ⟨g2, p, none⟩ (.int .i64 k))) ∧ (RN B g2 N k2 3 (((lay L 1).map g).set p k) w' → RN B g2 N k2 3 (((lay L 1).map g).set p k) (w'.setCell ⟨g2, p, none⟩ (.int .i64 k))))) := Lib.hid fun w' h => jt_two h hpl' n3
  go_wp2
  refine wp_region_late 18 (by kernel_rfl) (N := 36) rfl (by kernel_rfl) (by kernel_rfl) (by decide) (fun w' => JT B g1 g2 N k1 k2 w1 ((lay L 1).map f) ((lay L 1).map g) p m k w') (fun w w' => (RN B g1 N k1 2 (((lay L 1).map f).set p m) w → RN B g1 N k1 2 (((lay L 1).map f).set p m) w') ∧ (RN B g2 N k2 3 (((lay L 1).map g).set p k) w → RN B g2 N k2 3 (((lay L 1).map g).set p k) w')) (factRAt [.is (.pointer (some ⟨U, 0, none⟩)), .is (.pointer (some ⟨U, 0, none⟩)), .is (.pointer (some ⟨U, 0, none⟩)), .is (.pointer (some ⟨U, 1, none⟩)), .is (.slice (some ⟨g1, 0, none⟩) N k1), .is (.int .i64 (p : Nat)), .is (.pointer (some ⟨U, 0, none⟩)), .is (.pointer (some ⟨U, 0, none⟩)), .is (.pointer (some ⟨U, 0, none⟩)), .is (.pointer (some ⟨U, 2, none⟩)), .is (.slice (some ⟨g2, 0, none⟩) N k2), .is (.int .i64 (p : Nat)), .is (.int .i64 m), .is (.int .i64 k), .is (.pointer (some ⟨g1, p, none⟩)), .now (RN B g1 N k1 2 (((lay L 1).map f).set p m)) (fun _ _ h => h.1), .is (.pointer (some ⟨g2, p, none⟩)), .now (RN B g2 N k2 3 (((lay L 1).map g).set p k)) (fun _ _ h => h.2)]) (factRAt_stays _) ⟨(Tn.refl _ _).drew, .inl H1.out.o1, .inl H1.out.o2⟩ ?steps ?fin
  case steps =>
    refine ⟨?o0, ?o1, ?o2, ?o3, ?o4, ?o5, ?o6, ?o7, ?o8, ?o9, ?o10, ?o11, ?o12, ?o13, ?o14, ?o15, ?o16, ?o17, trivial⟩
    case o0 =>
      intro u a w' ev hJ hd K hK
      have e0 : a.tmps.getD 0 undef = .pointer (some ⟨U, 0, none⟩) := ev 0 (by decide)
      have HK := Lib.hid hK
      clear hK ev hd
      go_simp
      exact HK.out _ _ (fun h => by cases h) hJ rfl ⟨fun h => h, fun h => h⟩
    case o1 =>
      intro u a w' ev hJ hd K hK
      have e20 : a.tmps.getD 20 undef = .pointer (some ⟨U, 0, none⟩) := (ev 20 (by decide)).trans (hd 0 _ (by kernel_rfl) rfl)
      have HK := Lib.hid hK
      clear hK ev hd
      go_simp
      exact HK.out _ _ (fun h => by cases h) hJ rfl ⟨fun h => h, fun h => h⟩
    case o2 =>
      intro u a w' ev hJ hd K hK
      have e21 : a.tmps.getD 21 undef = .pointer (some ⟨U, 0, none⟩) := (ev 21 (by decide)).trans (hd 1 _ (by kernel_rfl) rfl)
      have HK := Lib.hid hK
      clear hK ev hd
      go_simp
      exact HK.out _ _ (fun h => by cases h) hJ rfl ⟨fun h => h, fun h => h⟩
    case o3 =>
      intro u a w' ev hJ hd K hK
      have e22 : a.tmps.getD 22 undef = .pointer (some ⟨U, 0, none⟩) := (ev 22 (by decide)).trans (hd 2 _ (by kernel_rfl) rfl)
      have HK := Lib.hid hK
      clear hK ev hd
      go_simp
      exact HK.out _ _ (fun h => by cases h) hJ rfl ⟨fun h => h, fun h => h⟩
    case o4 =>
      intro u a w' ev hJ hd K hK
      have e23 : a.tmps.getD 23 undef = .pointer (some ⟨U, 1, none⟩) := (ev 23 (by decide)).trans (hd 3 _ (by kernel_rfl) rfl)
      have g0 := hJ.1.cell (a := ⟨U, 1, none⟩) hu.out c1
      have HK := Lib.hid hK
      clear hK ev hd
      go_simp
      exact HK.out _ _ (fun h => by cases h) hJ rfl ⟨fun h => h, fun h => h⟩
    case o5 =>
      intro u a w' ev hJ hd K hK
      have e8 : a.tmps.getD 8 undef = .int .i64 (p : Nat) := ev 8 (by decide)
      have HK := Lib.hid hK
      clear hK ev hd
      go_simp
      exact HK.out _ _ (fun h => by cases h) hJ rfl ⟨fun h => h, fun h => h⟩
    case o6 =>
      intro u a w' ev hJ hd K hK
      have e0 : a.tmps.getD 0 undef = .pointer (some ⟨U, 0, none⟩) := ev 0 (by decide)
      have HK := Lib.hid hK
      clear hK ev hd
      go_simp
      exact HK.out _ _ (fun h => by cases h) hJ rfl ⟨fun h => h, fun h => h⟩
    case o7 =>
      intro u a w' ev hJ hd K hK
      have e26 : a.tmps.getD 26 undef = .pointer (some ⟨U, 0, none⟩) := (ev 26 (by decide)).trans (hd 6 _ (by kernel_rfl) rfl)
      have HK := Lib.hid hK
      clear hK ev hd
      go_simp
      exact HK.out _ _ (fun h => by cases h) hJ rfl ⟨fun h => h, fun h => h⟩
    case o8 =>
      intro u a w' ev hJ hd K hK
      have e27 : a.tmps.getD 27 undef = .pointer (some ⟨U, 0, none⟩) := (ev 27 (by decide)).trans (hd 7 _ (by kernel_rfl) rfl)
      have HK := Lib.hid hK
      clear hK ev hd
      go_simp
      exact HK.out _ _ (fun h => by cases h) hJ rfl ⟨fun h => h, fun h => h⟩
    case o9 =>
      intro u a w' ev hJ hd K hK
      have e28 : a.tmps.getD 28 undef = .pointer (some ⟨U, 0, none⟩) := (ev 28 (by decide)).trans (hd 8 _ (by kernel_rfl) rfl)
      have HK := Lib.hid hK
      clear hK ev hd
      go_simp
      exact HK.out _ _ (fun h => by cases h) hJ rfl ⟨fun h => h, fun h => h⟩
    case o10 =>
      intro u a w' ev hJ hd K hK
      have e29 : a.tmps.getD 29 undef = .pointer (some ⟨U, 2, none⟩) := (ev 29 (by decide)).trans (hd 9 _ (by kernel_rfl) rfl)
      have g0 := hJ.1.cell (a := ⟨U, 2, none⟩) hu.out c2
      have HK := Lib.hid hK
      clear hK ev hd
      go_simp
      exact HK.out _ _ (fun h => by cases h) hJ rfl ⟨fun h => h, fun h => h⟩
    case o11 =>
      intro u a w' ev hJ hd K hK
      have e8 : a.tmps.getD 8 undef = .int .i64 (p : Nat) := ev 8 (by decide)
      have HK := Lib.hid hK
      clear hK ev hd
      go_simp
      exact HK.out _ _ (fun h => by cases h) hJ rfl ⟨fun h => h, fun h => h⟩
    case o12 =>
      intro u a w' ev hJ hd K hK
      have e2 : a.tmps.getD 2 undef = .int .i64 m := ev 2 (by decide)
      have HK := Lib.hid hK
      clear hK ev hd
      go_simp
      exact HK.out _ _ (fun h => by cases h) hJ rfl ⟨fun h => h, fun h => h⟩
    case o13 =>
      intro u a w' ev hJ hd K hK
      have e3 : a.tmps.getD 3 undef = .int .i64 k := ev 3 (by decide)
      have HK := Lib.hid hK
      clear hK ev hd
      go_simp
      exact HK.out _ _ (fun h => by cases h) hJ rfl ⟨fun h => h, fun h => h⟩
    case o14 =>
      intro u a w' ev hJ hd K hK
      have e24 : a.tmps.getD 24 undef = .slice (some ⟨g1, 0, none⟩) N k1 := (ev 24 (by decide)).trans (hd 4 _ (by kernel_rfl) rfl)
      have e25 : a.tmps.getD 25 undef = .int .i64 (p : Nat) := (ev 25 (by decide)).trans (hd 5 _ (by kernel_rfl) rfl)
      have HK := Lib.hid hK
      clear hK ev hd
      go_simp
      exact HK.out _ _ (fun h => by cases h) hJ rfl ⟨fun h => h, fun h => h⟩
    case o15 =>
      intro u a w' ev hJ hd K hK
      have e34 : a.tmps.getD 34 undef = .pointer (some ⟨g1, p, none⟩) := (ev 34 (by decide)).trans (hd 14 _ (by kernel_rfl) rfl)
      have e32 : a.tmps.getD 32 undef = .int .i64 m := (ev 32 (by decide)).trans (hd 12 _ (by kernel_rfl) rfl)
      obtain ⟨y, cy, fy, J1, N1, R1⟩ := ST1.out w' hJ
      have HK := Lib.hid hK
      have HJ := Lib.hid J1
      have HN := Lib.hid N1
      have HR := Lib.hid R1
      clear hK ev hd J1 N1 R1 hJ
      go_simp
      exact HK.out _ _ (fun _ => rfl) HJ.out HN.out HR.out
    case o16 =>
      intro u a w' ev hJ hd K hK
      have e30 : a.tmps.getD 30 undef = .slice (some ⟨g2, 0, none⟩) N k2 := (ev 30 (by decide)).trans (hd 10 _ (by kernel_rfl) rfl)
      have e31 : a.tmps.getD 31 undef = .int .i64 (p : Nat) := (ev 31 (by decide)).trans (hd 11 _ (by kernel_rfl) rfl)
      have HK := Lib.hid hK
      clear hK ev hd
      go_simp
      exact HK.out _ _ (fun h => by cases h) hJ rfl ⟨fun h => h, fun h => h⟩
    case o17 =>
      intro u a w' ev hJ hd K hK
      have e35 : a.tmps.getD 35 undef = .pointer (some ⟨g2, p, none⟩) := (ev 35 (by decide)).trans (hd 16 _ (by kernel_rfl) rfl)
      have e33 : a.tmps.getD 33 undef = .int .i64 k := (ev 33 (by decide)).trans (hd 13 _ (by kernel_rfl) rfl)
      obtain ⟨y, cy, fy, J1, N1, R1⟩ := ST2.out w' hJ
      have HK := Lib.hid hK
      have HJ := Lib.hid J1
      have HN := Lib.hid N1
      have HR := Lib.hid R1
      clear hK ev hd J1 N1 R1 hJ
      go_simp
      exact HK.out _ _ (fun _ => rfl) HJ.out HN.out HR.out
  case fin =>
    intro u w2 hJ hG
    have e1 : RN B g1 N k1 2 (((lay L 1).map f).set p m) w2 := hG 15 _ rfl
    have e2 : RN B g2 N k2 3 (((lay L 1).map g).set p k) w2 := hG 17 _ rfl
    have t3 := hJ.1
    unfold RN at e1 e2
    rw [S1.out] at e1
    rw [S2.out] at e2
    have hend : Tn (fun q => q = g1 ∨ q = g2) W w2 ∧ UndS B w2 U g1 g2 N k1 k2 L (upd f n m) (upd g n k) := ⟨HT.out.trans t3, ⟨t3.cell hu.out H1.out.c0, t3.cell hu.out H1.out.c1, t3.cell hu.out H1.out.c2, e1, e2, H1.out.n1, H1.out.n2, H1.out.n3⟩⟩
    have HE := Lib.hid hend
    clear hG hJ e1 e2 t3 hend
    simp only [mixFrame, mixL, dstsOf, List.take_succ_cons, List.take_zero, List.filterMap_cons, List.filterMap_nil, List.contains_cons, List.contains_nil, Nat.reduceBEq, Bool.or_false, Bool.false_or, Bool.or_true, Bool.true_or, if_true, if_false, Bool.false_eq_true, Nat.reduceAdd, Nat.zero_add, List.drop_succ_cons, List.drop_zero]
    go_wp2
    exact bodyPost_end (results_none rfl _ _ _) rfl ⟨⟨_, rfl⟩, HE.out.1, HE.out.2⟩

set_option maxRecDepth 100000 in
set_option maxHeartbeats 1000000 in
theorem join_ok {B : Nat} {W : World} {U g1 g2 N k1 k2 L : Nat} {f g : Nat → Int} (h : UndS B W U g1 g2 N k1 k2 L f g) (hL1 : 1 ≤ L) (hL2 : L ≤ 14) (hN : N + 1 = 2 ^ L) (n : Nat) (n1 : 1 ≤ n) (n2 : 2 * n + 1 < 2 ^ L) :
    Calls Try.prog 42 #[.pointer (some ⟨U, 0, none⟩), .int .i64 n] W fun e w' => (∃ v, e = .returned v) ∧ Tn (fun q => q = g1 ∨ q = g2) W w' ∧ UndS B w' U g1 g2 N k1 k2 L (upd f n (jnT (f (2 * n), g (2 * n)) (f (2 * n + 1), g (2 * n + 1))).1) (upd g n (jnT (f (2 * n), g (2 * n)) (f (2 * n + 1), g (2 * n + 1))).2) := by
  have T1 := Lib.hid (fun W' (hb : Below W.heap.size W W') => told_ok (h.tn (Tn.of_below (S := fun _ => False) hb) (fun h => h) (fun h => h) (fun h => h)) hL1 hL2 hN (2 * n) (by omega) (by omega))
  have T2 := Lib.hid (fun W' (hb : Below W.heap.size W W') => told_ok (h.tn (Tn.of_below (S := fun _ => False) hb) (fun h => h) (fun h => h) (fun h => h)) hL1 hL2 hN (2 * n + 1) (by omega) (by omega))
  have TL := Lib.hid (fun m k W' (hb : Below W.heap.size W W') => tell_ok (h.tn (Tn.of_below (S := fun _ => False) hb) (fun h => h) (fun h => h) (fun h => h)) hL1 hL2 hN n n1 (by omega) m k)
  rw [show ((2 * n : Nat) : Int) = 2 * (n : Int) by push_cast; rfl] at T1
  rw [show ((2 * n + 1 : Nat) : Int) = 2 * (n : Int) + 1 by push_cast; rfl] at T2
  have hb : 2 ^ L ≤ 2 ^ 14 := Nat.pow_le_pow_right (by omega) hL2
  have hn8 : n ≤ 16384 := by omega
  generalize f (2 * n) = X1 at *
  generalize g (2 * n) = Y1 at *
  generalize f (2 * n + 1) = X2 at *
  generalize g (2 * n + 1) = Y2 at *
  clear h n2 hN hb
  by_cases hk : 0 < Y2
  · have e : jnT (X1, Y1) (X2, Y2) = (X2, wrap64 (Y1 + Y2)) := by simp [jnT, hk]
    rw [e]
    dsimp only
    clear e
    go_enter Try.func42, Try.ntmps42
    go_wp2_with fail
    refine (T1.out W (Below.refl _ _)).mono ?_
    rintro e w1 ⟨rfl, hb1⟩
    go_wp2_with fail
    refine (T2.out w1 hb1).mono ?_
    rintro e w2 ⟨rfl, hb2⟩
    have hb3 : Below W.heap.size W w2 := below_via hb2 hb1 hb1.size
    go_wp2_with fail
    refine (TL.out X2 (wrap64 (Y1 + Y2)) w2 hb3).mono ?_
    rintro e w3 ⟨⟨v, rfl⟩, ht, hu⟩
    have HT := Lib.hid ((Tn.of_below (S := fun q => q = g1 ∨ q = g2) hb3).trans ht)
    have HU := Lib.hid hu
    clear ht hu hb3 hb2 hb1
    go_wp2
    exact bodyPost_end (results_none rfl _ _ _) rfl ⟨⟨_, rfl⟩, HT.out, HU.out⟩
  · have e : jnT (X1, Y1) (X2, Y2) = (X1, wrap64 (Y1 + Y2)) := by simp [jnT, hk]
    rw [e]
    dsimp only
    clear e
    go_enter Try.func42, Try.ntmps42
    go_wp2_with fail
    refine (T1.out W (Below.refl _ _)).mono ?_
    rintro e w1 ⟨rfl, hb1⟩
    go_wp2_with fail
    refine (T2.out w1 hb1).mono ?_
    rintro e w2 ⟨rfl, hb2⟩
    have hb3 : Below W.heap.size W w2 := below_via hb2 hb1 hb1.size
    go_wp2_with fail
    refine (TL.out X1 (wrap64 (Y1 + Y2)) w2 hb3).mono ?_
    rintro e w3 ⟨⟨v, rfl⟩, ht, hu⟩
    have HT := Lib.hid ((Tn.of_below (S := fun q => q = g1 ∨ q = g2) hb3).trans ht)
    have HU := Lib.hid hu
    clear ht hu hb3 hb2 hb1
    go_wp2
    exact bodyPost_end (results_none rfl _ _ _) rfl ⟨⟨_, rfl⟩, HT.out, HU.out⟩
end

section
open Go.RowKit Go.Shelf

theorem law_int : Maps.Keyed Try.prog 3 := Maps.int_keyed Try.underlying3
theorem zero_int (w : World) : (zeroValue 3).run Try.prog w = .ok (.int .i64 0) w := by kernel_rfl
/-- a map of integers, as the walk carries it -/
abbrev OwnM (w : World) (b n : Nat) (D : DataW Unit) : Prop := w.ownsMap Try.prog 3 (plainElem Try.prog 3) b n D
/-- its keys -/
def KeysD (D : DataW Unit) (S : Nat → Prop) : Prop := ∀ x, (Lit.int .i64 x).wf = true → (Maps.has D (.int .i64 x) = true ↔ ∃ m : Nat, x = m ∧ S m)
theorem nat_wf {m : Nat} (h : m ≤ 1000000) : (Lit.int .i64 (m : Int)).wf = true := by
  simp [Lit.wf, IntKind.min, IntKind.max, IntKind.signed, IntKind.bits]
  omega
theorem key_nat {m : Nat} (h : m ≤ 1000000) : keyOf Try.prog 3 (.int .i64 (m : Int)) = some (.int .i64 (m : Int)) := Maps.keyOf_int_mk Try.underlying3 (nat_wf h)
theorem key_zero : keyOf Try.prog 3 (.int .i64 0) = some (.int .i64 0) := key_nat (m := 0) (by omega)
theorem isKey_nat {m : Nat} (h : m ≤ 1000000) : WideAt.IsKeyLit (.int .i64 (m : Int)) := by
  simp [WideAt.IsKeyLit]
theorem KeysD.made : KeysD (.map []) fun _ => False := fun x hx => ⟨fun h => by simp [Maps.has] at h, fun ⟨_, _, h⟩ => h.elim⟩
theorem KeysD.put {D : DataW Unit} {S : Nat → Prop} (h : KeysD D S) (hm : Maps.IsMap D) {m : Nat} (hb : m ≤ 1000000) (d : DataW Unit) : KeysD (D.put (.int .i64 (m : Int)) d) fun k => k = m ∨ S k := by
  intro x hx
  by_cases e : x = (m : Int)
  · subst e
    rw [Maps.has_put_same hm (isKey_nat hb)]
    exact ⟨fun _ => ⟨m, rfl, .inl rfl⟩, fun _ => rfl⟩
  · rw [Maps.has_put_other (by intro h'; cases h'; exact e rfl), h x hx]
    constructor
    · rintro ⟨k, rfl, hk⟩; exact ⟨k, rfl, .inr hk⟩
    · rintro ⟨k, rfl, hk | hk⟩
      · subst hk; exact absurd rfl e
      · exact ⟨k, rfl, hk⟩
theorem KeysD.del {D : DataW Unit} {S : Nat → Prop} (h : KeysD D S) {m : Nat} (hb : m ≤ 1000000) : KeysD (D.del (.int .i64 (m : Int))) fun k => k ≠ m ∧ S k := by
  intro x hx
  by_cases e : x = (m : Int)
  · subst e
    rw [Maps.has_del_same]
    exact ⟨fun h => (by cases h), fun hh => by obtain ⟨k, hk, hne, -⟩ := hh; exact absurd (by omega) hne⟩
  · rw [Maps.has_del_other (by intro h'; cases h'; exact e rfl), h x hx]
    constructor
    · rintro ⟨k, rfl, hk⟩; exact ⟨k, rfl, fun h' => e (by rw [h']), hk⟩
    · rintro ⟨k, rfl, _, hk⟩; exact ⟨k, rfl, hk⟩
theorem KeysD.eqv {D : DataW Unit} {S T : Nat → Prop} (h : KeysD D S) (e : ∀ k, S k ↔ T k) : KeysD D T := fun x hx => (h x hx).trans ⟨fun ⟨k, h1, h2⟩ => ⟨k, h1, (e k).1 h2⟩, fun ⟨k, h1, h2⟩ => ⟨k, h1, (e k).2 h2⟩⟩
theorem keys_none {w : World} {b n : Nat} {D : DataW Unit} {S : Nat → Prop} (ho : OwnM w b n D) (h : KeysD D S) (hS : ∀ k, ¬ S k) : Maps.size D = 0 := by
  obtain ⟨w', -, hr, -, -⟩ := ho.range law_int (t := 79) Try.underlying79
  rcases hr.next law_int 0 with ⟨h0, -, -⟩ | ⟨key, v, kl, y, w2, c2, hkey, hl, -⟩
  · exact h0
  · obtain ⟨x, rfl, rfl, hw⟩ := Maps.keyOf_int_inv Try.underlying3 hkey
    obtain ⟨m, -, hm⟩ := (h x hw).1 hl
    exact absurd hm (hS m)
theorem keys_some {D : DataW Unit} {S : Nat → Prop} (h : KeysD D S) {k : Nat} (hk : S k) (hb : k ≤ 1000000) : Maps.size D ≠ 0 := by
  have := (h (k : Int) (nat_wf hb)).2 ⟨k, rfl, hk⟩
  cases D <;> simp [Maps.has, Maps.size] at this ⊢
  intro e
  subst e
  simp at this
theorem own_tn {w w' : World} {b n : Nat} {D : DataW Unit} (h : OwnM w b n D) {S : Nat → Prop} (t : Tn S w w') (hs : ¬ S b) : OwnM w' b n D := by
  have hlt := h.lt
  obtain ⟨es, clock, hb, r⟩ := h
  exact ⟨es, clock, (t.keep b hlt hs).trans hb, r⟩
abbrev RngM (w : World) (b r n : Nat) (D : DataW Unit) (left : Lit → Bool) (cnt : Nat) : Prop := w.ranges Try.prog 3 (plainElem Try.prog 3) b r n D left cnt
theorem rng_tn {w w' : World} {b r n : Nat} {D : DataW Unit} {left : Lit → Bool} {cnt : Nat} (h : RngM w b r n D left cnt) {S : Nat → Prop} (t : Tn S w w') (hs : ¬ S b) (hr : ¬ S r) : RngM w' b r n D left cnt := by
  have h1 := h.owns.lt
  have h2 := h.lt
  obtain ⟨es, clock, since, seen, c0, e1, e2, e3, e4, e5, e6⟩ := h
  exact ⟨es, clock, since, seen, c0, (t.keep b h1 hs).trans e1, e2, e3, e4, (t.keep r h2 hr).trans e5, e6⟩
end
end Go.Proofs.Ytbmibaafkgleeaa
