/- The walks of slots.asked and slots.At. -/
import Derived.Test.YtbmibaafkgleeaaPrsAll
namespace Go.Proofs.Ytbmibaafkgleeaa
open Go.RowKit Go.Shelf
attribute [local go_sem] Oper.semAt_some
set_option linter.unusedVariables false
set_option linter.unusedSimpArgs false

theorem asked4_bad (w : World) (seg : Int) (wa ka va ca : Option Addr) (wc kc vc cc lw n lv lc : Nat) (laid i : Int) (x : Int) (hx : x ≠ 0) (CK : Hid (∀ W, Below w.heap.size w W → Calls Try.prog 33 #[.agg #[.int .i64 seg, .slice wa lw wc, .slice ka n kc, .slice va lv vc, .slice ca lc cc, .int .u64 laid]] W (AnsB W (.int .i64 x)))) :
    Calls Try.prog 57 #[.agg #[.int .i64 seg, .slice wa lw wc, .slice ka n kc, .slice va lv vc, .slice ca lc cc, .int .u64 laid], .int .i64 i] w (AnsB w (.int .i64 x)) := by
  have g1 : (x != 0) = true := by simpa using hx
  clear hx
  go_enter Try.func57, Try.ntmps57
  go_wp2_with fail
  refine (CK.out _ (by (repeat (first | (with_reducible exact Below.refl _ _) | (with_reducible assumption) | (with_reducible exact Hid.out (by with_reducible assumption)) | (with_reducible refine Below.alloc ?_ ?_ _) | (with_reducible refine Below.setCell ?_ ?_ _) | (with_reducible refine below_drewN ?_ _) | (with_reducible refine Below.drew ?_) | (with_reducible refine below_via (by with_reducible assumption) ?_ ?_) | (first | (with_reducible assumption) | omega | (simp only [World.size_alloc, World.size_setCell, World.size_drew, World.heap_drewN] <;> omega) | (simp <;> omega)))))).mono ?_
  rintro e w1 ⟨rfl, hb1⟩
  have hz_w1 := hb1.size
  try simp only [World.size_alloc, World.size_setCell] at hz_w1
  have hB1 : Below w.heap.size w w1 := by (repeat (first | (with_reducible exact Below.refl _ _) | (with_reducible assumption) | (with_reducible exact Hid.out (by with_reducible assumption)) | (with_reducible refine Below.alloc ?_ ?_ _) | (with_reducible refine Below.setCell ?_ ?_ _) | (with_reducible refine below_drewN ?_ _) | (with_reducible refine Below.drew ?_) | (with_reducible refine below_via (by with_reducible assumption) ?_ ?_) | (first | (with_reducible assumption) | omega | (simp only [World.size_alloc, World.size_setCell, World.size_drew, World.heap_drewN] <;> omega) | (simp <;> omega))))
  go_wp2
  go_ret
  exact ⟨rfl, hB1⟩
theorem asked4_neg (w : World) (seg : Int) (wa ka va ca : Option Addr) (wc kc vc cc lw n lv lc : Nat) (laid i : Int) (hi : i < 0) (CK : Hid (∀ W, Below w.heap.size w W → Calls Try.prog 33 #[.agg #[.int .i64 seg, .slice wa lw wc, .slice ka n kc, .slice va lv vc, .slice ca lc cc, .int .u64 laid]] W (AnsB W (.int .i64 0)))) :
    Calls Try.prog 57 #[.agg #[.int .i64 seg, .slice wa lw wc, .slice ka n kc, .slice va lv vc, .slice ca lc cc, .int .u64 laid], .int .i64 i] w (AnsB w (.int .i64 2)) := by
  go_enter Try.func57, Try.ntmps57
  go_wp2_with fail
  refine (CK.out _ (by (repeat (first | (with_reducible exact Below.refl _ _) | (with_reducible assumption) | (with_reducible exact Hid.out (by with_reducible assumption)) | (with_reducible refine Below.alloc ?_ ?_ _) | (with_reducible refine Below.setCell ?_ ?_ _) | (with_reducible refine below_drewN ?_ _) | (with_reducible refine Below.drew ?_) | (with_reducible refine below_via (by with_reducible assumption) ?_ ?_) | (first | (with_reducible assumption) | omega | (simp only [World.size_alloc, World.size_setCell, World.size_drew, World.heap_drewN] <;> omega) | (simp <;> omega)))))).mono ?_
  rintro e w1 ⟨rfl, hb1⟩
  have hz_w1 := hb1.size
  try simp only [World.size_alloc, World.size_setCell] at hz_w1
  have all_c : w1.cell? ⟨w.heap.size, 0, none⟩ = some (.int .i64 seg) ∧ w1.cell? ⟨w.heap.size, 1, none⟩ = some (.slice wa lw wc) ∧ w1.cell? ⟨w.heap.size, 2, none⟩ = some (.slice ka n kc) := by refine ⟨?_, ?_, ?_⟩ <;> (refine (hb1.cell ?_).trans ?_ <;> first | (first | (with_reducible assumption) | omega | (simp only [World.size_alloc, World.size_setCell, World.size_drew, World.heap_drewN] <;> omega) | (simp <;> omega)) | (first | (with_reducible assumption) | ((try simp (disch := first | omega | (simp only [World.size_alloc, World.size_setCell, World.size_drew, World.heap_drewN] <;> omega) | fail) only [World.cell?_alloc_past, World.cell?_alloc_at, World.frozen?_alloc_past, World.frozen?_alloc_at, World.frozen?_setCell, World.cell?_drew, World.frozen?_drew]) <;> first | (with_reducible assumption) | rfl)))
  have all_z : w.heap.size < w1.heap.size := by omega
  obtain ⟨c_t0, c_t1, c_t2⟩ := all_c
  try clear all_c
  have z_t := all_z
  try clear all_z
  have hB1 : Below w.heap.size w w1 := by (repeat (first | (with_reducible exact Below.refl _ _) | (with_reducible assumption) | (with_reducible exact Hid.out (by with_reducible assumption)) | (with_reducible refine Below.alloc ?_ ?_ _) | (with_reducible refine Below.setCell ?_ ?_ _) | (with_reducible refine below_drewN ?_ _) | (with_reducible refine Below.drew ?_) | (with_reducible refine below_via (by with_reducible assumption) ?_ ?_) | (first | (with_reducible assumption) | omega | (simp only [World.size_alloc, World.size_setCell, World.size_drew, World.heap_drewN] <;> omega) | (simp <;> omega))))
  go_wp2
  go_ret
  exact ⟨rfl, hB1⟩
theorem asked4_far (w : World) (seg : Int) (wa ka va ca : Option Addr) (wc kc vc cc lw n lv lc : Nat) (laid i : Int) (h0 : 0 ≤ i) (hi : (n : Int) ≤ i) (CK : Hid (∀ W, Below w.heap.size w W → Calls Try.prog 33 #[.agg #[.int .i64 seg, .slice wa lw wc, .slice ka n kc, .slice va lv vc, .slice ca lc cc, .int .u64 laid]] W (AnsB W (.int .i64 0)))) :
    Calls Try.prog 57 #[.agg #[.int .i64 seg, .slice wa lw wc, .slice ka n kc, .slice va lv vc, .slice ca lc cc, .int .u64 laid], .int .i64 i] w (AnsB w (.int .i64 2)) := by
  go_enter Try.func57, Try.ntmps57
  go_wp2_with fail
  refine (CK.out _ (by (repeat (first | (with_reducible exact Below.refl _ _) | (with_reducible assumption) | (with_reducible exact Hid.out (by with_reducible assumption)) | (with_reducible refine Below.alloc ?_ ?_ _) | (with_reducible refine Below.setCell ?_ ?_ _) | (with_reducible refine below_drewN ?_ _) | (with_reducible refine Below.drew ?_) | (with_reducible refine below_via (by with_reducible assumption) ?_ ?_) | (first | (with_reducible assumption) | omega | (simp only [World.size_alloc, World.size_setCell, World.size_drew, World.heap_drewN] <;> omega) | (simp <;> omega)))))).mono ?_
  rintro e w1 ⟨rfl, hb1⟩
  have hz_w1 := hb1.size
  try simp only [World.size_alloc, World.size_setCell] at hz_w1
  have all_c : w1.cell? ⟨w.heap.size, 0, none⟩ = some (.int .i64 seg) ∧ w1.cell? ⟨w.heap.size, 1, none⟩ = some (.slice wa lw wc) ∧ w1.cell? ⟨w.heap.size, 2, none⟩ = some (.slice ka n kc) := by refine ⟨?_, ?_, ?_⟩ <;> (refine (hb1.cell ?_).trans ?_ <;> first | (first | (with_reducible assumption) | omega | (simp only [World.size_alloc, World.size_setCell, World.size_drew, World.heap_drewN] <;> omega) | (simp <;> omega)) | (first | (with_reducible assumption) | ((try simp (disch := first | omega | (simp only [World.size_alloc, World.size_setCell, World.size_drew, World.heap_drewN] <;> omega) | fail) only [World.cell?_alloc_past, World.cell?_alloc_at, World.frozen?_alloc_past, World.frozen?_alloc_at, World.frozen?_setCell, World.cell?_drew, World.frozen?_drew]) <;> first | (with_reducible assumption) | rfl)))
  have all_z : w.heap.size < w1.heap.size := by omega
  obtain ⟨c_t0, c_t1, c_t2⟩ := all_c
  try clear all_c
  have z_t := all_z
  try clear all_z
  have hB1 : Below w.heap.size w w1 := by (repeat (first | (with_reducible exact Below.refl _ _) | (with_reducible assumption) | (with_reducible exact Hid.out (by with_reducible assumption)) | (with_reducible refine Below.alloc ?_ ?_ _) | (with_reducible refine Below.setCell ?_ ?_ _) | (with_reducible refine below_drewN ?_ _) | (with_reducible refine Below.drew ?_) | (with_reducible refine below_via (by with_reducible assumption) ?_ ?_) | (first | (with_reducible assumption) | omega | (simp only [World.size_alloc, World.size_setCell, World.size_drew, World.heap_drewN] <;> omega) | (simp <;> omega))))
  go_wp2
  go_ret
  exact ⟨rfl, hB1⟩
theorem asked4_in (w : World) (seg : Int) (wa ka va ca : Option Addr) (wc kc vc cc lw n lv lc : Nat) (laid i : Int) (h0 : 0 ≤ i) (hi : i < (n : Int)) (CK : Hid (∀ W, Below w.heap.size w W → Calls Try.prog 33 #[.agg #[.int .i64 seg, .slice wa lw wc, .slice ka n kc, .slice va lv vc, .slice ca lc cc, .int .u64 laid]] W (AnsB W (.int .i64 0)))) :
    Calls Try.prog 57 #[.agg #[.int .i64 seg, .slice wa lw wc, .slice ka n kc, .slice va lv vc, .slice ca lc cc, .int .u64 laid], .int .i64 i] w (AnsB w (.int .i64 0)) := by
  go_enter Try.func57, Try.ntmps57
  go_wp2_with fail
  refine (CK.out _ (by (repeat (first | (with_reducible exact Below.refl _ _) | (with_reducible assumption) | (with_reducible exact Hid.out (by with_reducible assumption)) | (with_reducible refine Below.alloc ?_ ?_ _) | (with_reducible refine Below.setCell ?_ ?_ _) | (with_reducible refine below_drewN ?_ _) | (with_reducible refine Below.drew ?_) | (with_reducible refine below_via (by with_reducible assumption) ?_ ?_) | (first | (with_reducible assumption) | omega | (simp only [World.size_alloc, World.size_setCell, World.size_drew, World.heap_drewN] <;> omega) | (simp <;> omega)))))).mono ?_
  rintro e w1 ⟨rfl, hb1⟩
  have hz_w1 := hb1.size
  try simp only [World.size_alloc, World.size_setCell] at hz_w1
  have all_c : w1.cell? ⟨w.heap.size, 0, none⟩ = some (.int .i64 seg) ∧ w1.cell? ⟨w.heap.size, 1, none⟩ = some (.slice wa lw wc) ∧ w1.cell? ⟨w.heap.size, 2, none⟩ = some (.slice ka n kc) := by refine ⟨?_, ?_, ?_⟩ <;> (refine (hb1.cell ?_).trans ?_ <;> first | (first | (with_reducible assumption) | omega | (simp only [World.size_alloc, World.size_setCell, World.size_drew, World.heap_drewN] <;> omega) | (simp <;> omega)) | (first | (with_reducible assumption) | ((try simp (disch := first | omega | (simp only [World.size_alloc, World.size_setCell, World.size_drew, World.heap_drewN] <;> omega) | fail) only [World.cell?_alloc_past, World.cell?_alloc_at, World.frozen?_alloc_past, World.frozen?_alloc_at, World.frozen?_setCell, World.cell?_drew, World.frozen?_drew]) <;> first | (with_reducible assumption) | rfl)))
  have all_z : w.heap.size < w1.heap.size := by omega
  obtain ⟨c_t0, c_t1, c_t2⟩ := all_c
  try clear all_c
  have z_t := all_z
  try clear all_z
  have hB1 : Below w.heap.size w w1 := by (repeat (first | (with_reducible exact Below.refl _ _) | (with_reducible assumption) | (with_reducible exact Hid.out (by with_reducible assumption)) | (with_reducible refine Below.alloc ?_ ?_ _) | (with_reducible refine Below.setCell ?_ ?_ _) | (with_reducible refine below_drewN ?_ _) | (with_reducible refine Below.drew ?_) | (with_reducible refine below_via (by with_reducible assumption) ?_ ?_) | (first | (with_reducible assumption) | omega | (simp only [World.size_alloc, World.size_setCell, World.size_drew, World.heap_drewN] <;> omega) | (simp <;> omega))))
  go_wp2
  go_ret
  exact ⟨rfl, hB1⟩
/-- what asked answers -/
def askS (c : SlC) (i : Int) : Int := if slMay c = true then (if 0 ≤ i ∧ i < c.ks.length then 0 else 2) else 8
theorem asked4_ok (c : SlC) (a : SlA) (hl : c.ws.length ≤ 1000000000000) (hl2 : c.ks.length ≤ 1000000000000) (i : Int) (w : World) (hin : SlIn w c a) :
    Calls Try.prog 57 #[slV c a, .int .i64 i] w (AnsB w (.int .i64 (askS c i))) := by
  have CK := Lib.hid (fun W (hb : Below w.heap.size w W) => slCheck_ok c a hl hl2 W (hin.below hb))
  unfold askS
  by_cases hm : slMay c = true
  · rw [show slE c = 0 from if_pos hm] at CK
    rw [if_pos hm]
    by_cases h0 : 0 ≤ i
    · by_cases hi : i < c.ks.length
      · rw [if_pos ⟨h0, hi⟩]
        exact asked4_in w _ _ _ _ _ _ _ _ _ _ _ _ _ _ i h0 hi CK
      · rw [if_neg (fun h => hi h.2)]
        exact asked4_far w _ _ _ _ _ _ _ _ _ _ _ _ _ _ i h0 (by omega) CK
    · rw [if_neg (fun h => h0 h.1)]
      exact asked4_neg w _ _ _ _ _ _ _ _ _ _ _ _ _ _ i (by omega) CK
  · rw [show slE c = 8 from if_neg hm] at CK
    rw [if_neg hm]
    exact asked4_bad w _ _ _ _ _ _ _ _ _ _ _ _ _ _ i 8 (by decide) CK

theorem two_at {w : World} {b : Nat} {x y : Value} (h0 : w.cell? ⟨b, 0, none⟩ = some x) (h1 : w.cell? ⟨b, 1, none⟩ = some y) : ∀ j v, [x, y][j]? = some v → w.cell? ⟨b, j, none⟩ = some v := by
  intro j v hj
  match j with
  | 0 => simp at hj; rw [← hj]; exact h0
  | 1 => simp at hj; rw [← hj]; exact h1
  | n + 2 => simp at hj
theorem at_set {W : World} {b4 b5 : Nat} {x y e u v z : Value} (hne : b4 ≠ b5) (h0 : W.cell? ⟨b4, 0, none⟩ = some u) (h1 : W.cell? ⟨b4, 1, none⟩ = some v) (h2 : W.cell? ⟨b5, 0, none⟩ = some z) :
    (((W.setCell ⟨b4, 0, none⟩ x).setCell ⟨b4, 1, none⟩ y).setCell ⟨b5, 0, none⟩ e).cell? ⟨b4, 0, none⟩ = some x ∧ (((W.setCell ⟨b4, 0, none⟩ x).setCell ⟨b4, 1, none⟩ y).setCell ⟨b5, 0, none⟩ e).cell? ⟨b4, 1, none⟩ = some y ∧ (((W.setCell ⟨b4, 0, none⟩ x).setCell ⟨b4, 1, none⟩ y).setCell ⟨b5, 0, none⟩ e).cell? ⟨b5, 0, none⟩ = some e := by
  refine ⟨?_, ?_, World.cell?_setCell_same (u := z) _ _ _ ?_⟩
  · rw [World.cell?_setCell_other _ _ _ _ (by intro e; injection e with e1 e2; omega), World.cell?_setCell_other _ _ _ _ (by intro e; injection e with e1 e2; omega)]
    exact World.cell?_setCell_same _ _ _ h0
  · rw [World.cell?_setCell_other _ _ _ _ (by intro e; injection e with e1 e2; omega)]
    exact World.cell?_setCell_same _ _ _ (by rw [World.cell?_setCell_other _ _ _ _ (by intro e; injection e with e1 e2; omega)]; exact h1)
  · rw [World.cell?_setCell_other _ _ _ _ (by intro e; injection e with e1 e2; omega), World.cell?_setCell_other _ _ _ _ (by intro e; injection e with e1 e2; omega)]
    exact h2
/-- the pair's box and the error's, as long as nothing is found -/
structure AtI (Z b4 b5 B : Nat) (w : World) (k : Nat) (W : World) : Prop where
  zero : k = 0
  c0 : W.cell? ⟨b4, 0, none⟩ = some (.int .i64 0)
  c1 : W.cell? ⟨b4, 1, none⟩ = some (.int .i64 0)
  e0 : W.cell? ⟨b5, 0, none⟩ = some (.int .i64 0)
  f0 : W.frozen? ⟨b4, 0, none⟩ = false
  f1 : W.frozen? ⟨b4, 1, none⟩ = false
  g0 : W.frozen? ⟨b5, 0, none⟩ = false
  bel : Below B w W
  big : Z ≤ W.heap.size
theorem AtI.calm {Z b4 b5 B M : Nat} {w : World} {k : Nat} {W W' : World} (h : AtI Z b4 b5 B w k W) (hc : Calm M W W') (hB : B ≤ M) : AtI Z b4 b5 B w k W' :=
  ⟨h.zero, hc.cell h.c0, hc.cell h.c1, hc.cell h.e0, hc.frozen h.c0 h.f0, hc.frozen h.c1 h.f1, hc.frozen h.e0 h.g0, hc.below hB h.bel, Nat.le_trans h.big hc.size⟩
/-- found -/
structure AtX (x y : Int) (m b4 b5 B : Nat) (w : World) (c : Code) (W : World) : Prop where
  code : c = .ret
  hit : m ≠ 0
  c0 : W.cell? ⟨b4, 0, none⟩ = some (.int .i64 x)
  c1 : W.cell? ⟨b4, 1, none⟩ = some (.int .i64 y)
  e0 : W.cell? ⟨b5, 0, none⟩ = some (.int .i64 0)
  bel : Below B w W
theorem AtX.calm {x y : Int} {m b4 b5 B M : Nat} {w : World} {c : Code} {W W' : World} (h : AtX x y m b4 b5 B w c W) (hc : Calm M W W') (hB : B ≤ M) : AtX x y m b4 b5 B w c W' :=
  ⟨h.code, h.hit, hc.cell h.c0, hc.cell h.c1, hc.cell h.e0, hc.below hB h.bel⟩

set_option maxRecDepth 100000 in
set_option maxHeartbeats 1000000 in
theorem At4_no (w : World) (seg : Int) (wa ka va ca : Option Addr) (wc kc vc cc lw n lv lc : Nat) (laid i : Int) (x : Int) (hx : x ≠ 0)
    (AK : Hid (∀ W, Below w.heap.size w W → Calls Try.prog 57 #[.agg #[.int .i64 seg, .slice wa lw wc, .slice ka n kc, .slice va lv vc, .slice ca lc cc, .int .u64 laid], .int .i64 i] W (AnsB W (.int .i64 x)))) :
    Calls Try.prog 25 #[.agg #[.int .i64 seg, .slice wa lw wc, .slice ka n kc, .slice va lv vc, .slice ca lc cc, .int .u64 laid], .int .i64 i] w (AnsB w (.tuple #[.agg #[.int .i64 0, .int .i64 0], .int .i64 x])) := by
  have g1 : (x != 0) = true := by simpa using hx
  clear hx
  go_enter Try.func25, Try.ntmps25
  go_wp2_with fail
  refine (AK.out _ (by (repeat (first | (with_reducible exact Below.refl _ _) | (with_reducible assumption) | (with_reducible exact Hid.out (by with_reducible assumption)) | (with_reducible refine Below.alloc ?_ ?_ _) | (with_reducible refine Below.setCell ?_ ?_ _) | (with_reducible refine below_drewN ?_ _) | (with_reducible refine Below.drew ?_) | (with_reducible refine below_via (by with_reducible assumption) ?_ ?_) | (first | (with_reducible assumption) | omega | (simp only [World.size_alloc, World.size_setCell, World.size_drew, World.heap_drewN] <;> omega) | (simp <;> omega)))))).mono ?_
  rintro e w1 ⟨rfl, hb1⟩
  have hz_w1 := hb1.size
  try simp only [World.size_alloc, World.size_setCell] at hz_w1
  have all_c : w1.cell? ⟨w.heap.size + 1, 0, none⟩ = some (.int .i64 0) ∧ w1.cell? ⟨w.heap.size + 1, 1, none⟩ = some (.int .i64 0) ∧ w1.cell? ⟨w.heap.size + 1 + 1, 0, none⟩ = some (.int .i64 0) := by refine ⟨?_, ?_, ?_⟩ <;> (refine (hb1.cell ?_).trans ?_ <;> first | (first | (with_reducible assumption) | omega | (simp only [World.size_alloc, World.size_setCell, World.size_drew, World.heap_drewN] <;> omega) | (simp <;> omega)) | (first | (with_reducible assumption) | ((try simp (disch := first | omega | (simp only [World.size_alloc, World.size_setCell, World.size_drew, World.heap_drewN] <;> omega) | fail) only [World.cell?_alloc_past, World.cell?_alloc_at, World.frozen?_alloc_past, World.frozen?_alloc_at, World.frozen?_setCell, World.cell?_drew, World.frozen?_drew]) <;> first | (with_reducible assumption) | rfl)))
  have all_f : w1.frozen? ⟨w.heap.size + 1, 0, none⟩ = false ∧ w1.frozen? ⟨w.heap.size + 1, 1, none⟩ = false ∧ w1.frozen? ⟨w.heap.size + 1 + 1, 0, none⟩ = false := by refine ⟨?_, ?_, ?_⟩ <;> (refine (hb1.frozen ?_).trans ?_ <;> first | (first | (with_reducible assumption) | omega | (simp only [World.size_alloc, World.size_setCell, World.size_drew, World.heap_drewN] <;> omega) | (simp <;> omega)) | (first | (with_reducible assumption) | ((try simp (disch := first | omega | (simp only [World.size_alloc, World.size_setCell, World.size_drew, World.heap_drewN] <;> omega) | fail) only [World.cell?_alloc_past, World.cell?_alloc_at, World.frozen?_alloc_past, World.frozen?_alloc_at, World.frozen?_setCell, World.cell?_drew, World.frozen?_drew]) <;> first | (with_reducible assumption) | rfl)))
  have all_z : w.heap.size + 1 < w1.heap.size ∧ w.heap.size + 1 + 1 < w1.heap.size := by refine ⟨?_, ?_⟩ <;> (omega)
  obtain ⟨c_p0, c_p1, c_e0⟩ := all_c
  try clear all_c
  obtain ⟨f_p0, f_p1, f_e0⟩ := all_f
  try clear all_f
  obtain ⟨z_p, z_e⟩ := all_z
  try clear all_z
  have hB1 : Below w.heap.size w w1 := by (repeat (first | (with_reducible exact Below.refl _ _) | (with_reducible assumption) | (with_reducible exact Hid.out (by with_reducible assumption)) | (with_reducible refine Below.alloc ?_ ?_ _) | (with_reducible refine Below.setCell ?_ ?_ _) | (with_reducible refine below_drewN ?_ _) | (with_reducible refine Below.drew ?_) | (with_reducible refine below_via (by with_reducible assumption) ?_ ?_) | (first | (with_reducible assumption) | omega | (simp only [World.size_alloc, World.size_setCell, World.size_drew, World.heap_drewN] <;> omega) | (simp <;> omega))))
  go_wp2
  obtain ⟨d0, d1, d2⟩ := at_set (x := .int .i64 0) (y := .int .i64 0) (e := .int .i64 x) (show w.heap.size + 1 ≠ w.heap.size + 1 + 1 by omega) c_p0 c_p1 c_e0
  exact bodyPost_ret (results_cc rfl rfl rfl (run_loadVar_many _ Try.underlying55 rfl (by kernel_rfl) (two_at d0 d1)) (run_loadVar_one Try.underlying35 rfl d2)) rfl ⟨rfl, ((hB1.setCell (by dsimp only; omega) _).setCell (by dsimp only; omega) _).setCell (by dsimp only; omega) _⟩

set_option maxRecDepth 100000 in
set_option maxHeartbeats 2000000 in
theorem At4_in (c : SlC) (a : SlA) (i : Nat) (L : List (Int × Int)) (hL : L.length ≤ 1) (hi : i + 1 ≤ 65536) (w : World) (hin : SlIn w c a)
    (AK : Hid (∀ W, Below w.heap.size w W → Calls Try.prog 57 #[slV c a, .int .i64 i] W (AnsB W (.int .i64 0))))
    (IT : Hid (∀ (S : Nat → Prop) (b1 b2 b3 : Nat), S b1 → S b2 → S b3 → SlS S c a → ∀ W, IsRow .u64 W a.wa c.ws → IsRow .i64 W a.ka c.ks → IsRow .i64 W a.va c.vs → PrBox W b1 b2 b3 c a i (i + 1) → Iter Try.prog 91 #[.pointer (some ⟨b1, 0, none⟩), .pointer (some ⟨b2, 0, none⟩), .pointer (some ⟨b3, 0, none⟩)] (pairsL L) (KpS S) W)) :
    Calls Try.prog 25 #[slV c a, .int .i64 i] w (AnsB w (.tuple #[.agg #[.int .i64 (L.getD 0 (0, 0)).1, .int .i64 (L.getD 0 (0, 0)).2], .int .i64 (if L.length = 0 then 6 else 0)])) := by
  have HIN := Lib.hid hin
  have PA := Lib.hid (fun w => pairs_ok c a i (i + 1) w)
  have HPL := Lib.hid (pairsL_length L)
  have HPG := Lib.hid (fun k (h : k < L.length) => pairsL_get h)
  have k1 : IntKind.i64.wrap ((i : Int) + 1) = (i : Int) + 1 := IntWalk.i64_in _ (by omega)
  have NO := Lib.hid (fun (h : L.length = 0) => (show (L.getD 0 (0, 0)).1 = 0 ∧ (L.getD 0 (0, 0)).2 = 0 ∧ (if L.length = 0 then (6 : Int) else 0) = 6 by
    rw [List.length_eq_zero_iff.1 h]; exact ⟨rfl, rfl, rfl⟩))
  have YES := Lib.hid (fun (h : L.length ≠ 0) => (show (if L.length = 0 then (6 : Int) else 0) = 0 from if_neg h))
  generalize hE : (if L.length = 0 then (6 : Int) else 0) = E at *
  have HXY : Hid (∀ k, k < L.length → (L.getD k (0, 0)).1 = (L.getD 0 (0, 0)).1 ∧ (L.getD k (0, 0)).2 = (L.getD 0 (0, 0)).2 ∧ L.length ≠ 0) := Lib.hid fun k hk => by
    obtain rfl : k = 0 := by omega
    exact ⟨rfl, rfl, by omega⟩
  generalize (L.getD 0 (0, 0)).1 = X at *
  generalize (L.getD 0 (0, 0)).2 = Y at *
  clear hin hE hL
  obtain ⟨seg, ws, ks, vs, cs, laid⟩ := c
  obtain ⟨wa, ka, va, ca, wc, kc, vc, cc⟩ := a
  dsimp only [slV] at *
  refine calls_of_wp_m Try.func25 rfl ?_
  simp only [Try.ntmps25, List.size_toArray, List.length_cons, List.length_nil, Nat.reduceAdd, Nat.reduceSub, Array.replicate_succ, Array.replicate_zero, List.push_toArray, List.append_toArray, List.nil_append, List.cons_append]
  go_wp2_with fail
  refine (AK.out _ (by (repeat (first | (with_reducible exact Below.refl _ _) | (with_reducible assumption) | (with_reducible exact Hid.out (by with_reducible assumption)) | (with_reducible refine Below.alloc ?_ ?_ _) | (with_reducible refine Below.setCell ?_ ?_ _) | (with_reducible refine below_drewN ?_ _) | (with_reducible refine Below.drew ?_) | (with_reducible refine below_via (by with_reducible assumption) ?_ ?_) | (first | (with_reducible assumption) | omega | (simp only [World.size_alloc, World.size_setCell, World.size_drew, World.heap_drewN] <;> omega) | (simp <;> omega)))))).mono ?_
  rintro e w1 ⟨rfl, hb1⟩
  have hz_w1 := hb1.size
  try simp only [World.size_alloc, World.size_setCell] at hz_w1
  have all_c : w1.cell? ⟨w.heap.size, 0, none⟩ = some (.int .i64 seg) ∧ w1.cell? ⟨w.heap.size, 1, none⟩ = some (.slice wa ws.length wc) ∧ w1.cell? ⟨w.heap.size, 2, none⟩ = some (.slice ka ks.length kc) ∧ w1.cell? ⟨w.heap.size, 3, none⟩ = some (.slice va vs.length vc) ∧ w1.cell? ⟨w.heap.size, 4, none⟩ = some (.slice ca cs.length cc) ∧ w1.cell? ⟨w.heap.size, 5, none⟩ = some (.int .u64 laid) ∧ w1.cell? ⟨w.heap.size + 1, 0, none⟩ = some (.int .i64 0) ∧ w1.cell? ⟨w.heap.size + 1, 1, none⟩ = some (.int .i64 0) ∧ w1.cell? ⟨w.heap.size + 1 + 1, 0, none⟩ = some (.int .i64 0) := by refine ⟨?_, ?_, ?_, ?_, ?_, ?_, ?_, ?_, ?_⟩ <;> (refine (hb1.cell ?_).trans ?_ <;> first | (first | (with_reducible assumption) | omega | (simp only [World.size_alloc, World.size_setCell, World.size_drew, World.heap_drewN] <;> omega) | (simp <;> omega)) | (first | (with_reducible assumption) | ((try simp (disch := first | omega | (simp only [World.size_alloc, World.size_setCell, World.size_drew, World.heap_drewN] <;> omega) | fail) only [World.cell?_alloc_past, World.cell?_alloc_at, World.frozen?_alloc_past, World.frozen?_alloc_at, World.frozen?_setCell, World.cell?_drew, World.frozen?_drew]) <;> first | (with_reducible assumption) | rfl)))
  have all_f : w1.frozen? ⟨w.heap.size + 1, 0, none⟩ = false ∧ w1.frozen? ⟨w.heap.size + 1, 1, none⟩ = false ∧ w1.frozen? ⟨w.heap.size + 1 + 1, 0, none⟩ = false := by refine ⟨?_, ?_, ?_⟩ <;> (refine (hb1.frozen ?_).trans ?_ <;> first | (first | (with_reducible assumption) | omega | (simp only [World.size_alloc, World.size_setCell, World.size_drew, World.heap_drewN] <;> omega) | (simp <;> omega)) | (first | (with_reducible assumption) | ((try simp (disch := first | omega | (simp only [World.size_alloc, World.size_setCell, World.size_drew, World.heap_drewN] <;> omega) | fail) only [World.cell?_alloc_past, World.cell?_alloc_at, World.frozen?_alloc_past, World.frozen?_alloc_at, World.frozen?_setCell, World.cell?_drew, World.frozen?_drew]) <;> first | (with_reducible assumption) | rfl)))
  have all_z : w.heap.size < w1.heap.size ∧ w.heap.size + 1 < w1.heap.size ∧ w.heap.size + 1 + 1 < w1.heap.size := by refine ⟨?_, ?_, ?_⟩ <;> (omega)
  obtain ⟨c_t0, c_t1, c_t2, c_t3, c_t4, c_t5, c_p0, c_p1, c_e0⟩ := all_c
  try clear all_c
  obtain ⟨f_p0, f_p1, f_e0⟩ := all_f
  try clear all_f
  obtain ⟨z_t, z_p, z_e⟩ := all_z
  try clear all_z
  have hB1 : Below w.heap.size w w1 := by (repeat (first | (with_reducible exact Below.refl _ _) | (with_reducible assumption) | (with_reducible exact Hid.out (by with_reducible assumption)) | (with_reducible refine Below.alloc ?_ ?_ _) | (with_reducible refine Below.setCell ?_ ?_ _) | (with_reducible refine below_drewN ?_ _) | (with_reducible refine Below.drew ?_) | (with_reducible refine below_via (by with_reducible assumption) ?_ ?_) | (first | (with_reducible assumption) | omega | (simp only [World.size_alloc, World.size_setCell, World.size_drew, World.heap_drewN] <;> omega) | (simp <;> omega))))
  have hz1 : w.heap.size + 3 ≤ w1.heap.size := by omega
  go_wp2_with fail
  refine (PA.out _).mono ?_
  rintro e w2 ⟨rfl, rfl⟩
  have HI1 := HIN.out.below hB1
  have HB1 := Lib.hid hB1
  go_wp2
  refine wp_range_w (xs := pairsL L) (Kp := KpS (fun k => k < w1.heap.size + 3)) rfl (enters_of Try.func91 (by kernel_rfl) rfl)
    (IT.out (fun k => k < w1.heap.size + 3) (w1.heap.size + 1) (w1.heap.size + 2) w1.heap.size (by show _ < _; omega) (by show _ < _; omega) (by show _ < _; omega) ⟨?s1, ?s2, ?s3⟩ _ ?r1 ?r2 ?r3 ⟨?b1, ?b2, ?b3, ?b4, ?b5, ?b6, ?b7, ?b8⟩) (Below.refl _ _) (fun h k => fun i hi => (k i hi).trans (h i hi)) ?kb ?ps
    (AtI (w1.heap.size + 3) (w.heap.size + 1) (w.heap.size + 1 + 1) w.heap.size w) (AtX X Y L.length (w.heap.size + 1) (w.heap.size + 1 + 1) w.heap.size w) ?hI ?hX ?h0 ?round ?done ?stop
  case s1 => intro x hx h0; have := row_block HI1.w x hx h0; show _ < _; omega
  case s2 => intro x hx h0; have := row_block HI1.k x hx h0; show _ < _; omega
  case s3 => intro x hx h0; have := row_block HI1.v x hx h0; show _ < _; omega
  case r1 => exact HI1.w.below (by (repeat (first | (with_reducible exact Below.refl _ _) | (with_reducible assumption) | (with_reducible exact Hid.out (by with_reducible assumption)) | (with_reducible refine Below.alloc ?_ ?_ _) | (with_reducible refine Below.setCell ?_ ?_ _) | (with_reducible refine below_drewN ?_ _) | (with_reducible refine Below.drew ?_) | (with_reducible refine below_via (by with_reducible assumption) ?_ ?_) | (first | (with_reducible assumption) | omega | (simp only [World.size_alloc, World.size_setCell, World.size_drew, World.heap_drewN] <;> omega) | (simp <;> omega)))))
  case r2 => exact HI1.k.below (by (repeat (first | (with_reducible exact Below.refl _ _) | (with_reducible assumption) | (with_reducible exact Hid.out (by with_reducible assumption)) | (with_reducible refine Below.alloc ?_ ?_ _) | (with_reducible refine Below.setCell ?_ ?_ _) | (with_reducible refine below_drewN ?_ _) | (with_reducible refine Below.drew ?_) | (with_reducible refine below_via (by with_reducible assumption) ?_ ?_) | (first | (with_reducible assumption) | omega | (simp only [World.size_alloc, World.size_setCell, World.size_drew, World.heap_drewN] <;> omega) | (simp <;> omega)))))
  case r3 => exact HI1.v.below (by (repeat (first | (with_reducible exact Below.refl _ _) | (with_reducible assumption) | (with_reducible exact Hid.out (by with_reducible assumption)) | (with_reducible refine Below.alloc ?_ ?_ _) | (with_reducible refine Below.setCell ?_ ?_ _) | (with_reducible refine below_drewN ?_ _) | (with_reducible refine Below.drew ?_) | (with_reducible refine below_via (by with_reducible assumption) ?_ ?_) | (first | (with_reducible assumption) | omega | (simp only [World.size_alloc, World.size_setCell, World.size_drew, World.heap_drewN] <;> omega) | (simp <;> omega)))))
  case b1 => (first | (with_reducible assumption) | ((try simp (disch := first | omega | (simp only [World.size_alloc, World.size_setCell, World.size_drew, World.heap_drewN] <;> omega) | fail) only [World.cell?_alloc_past, World.cell?_alloc_at, World.frozen?_alloc_past, World.frozen?_alloc_at, World.frozen?_setCell, World.cell?_drew, World.frozen?_drew]) <;> first | (with_reducible assumption) | rfl))
  case b2 => (first | (with_reducible assumption) | ((try simp (disch := first | omega | (simp only [World.size_alloc, World.size_setCell, World.size_drew, World.heap_drewN] <;> omega) | fail) only [World.cell?_alloc_past, World.cell?_alloc_at, World.frozen?_alloc_past, World.frozen?_alloc_at, World.frozen?_setCell, World.cell?_drew, World.frozen?_drew]) <;> first | (with_reducible assumption) | rfl))
  case b3 => (first | (with_reducible assumption) | ((try simp (disch := first | omega | (simp only [World.size_alloc, World.size_setCell, World.size_drew, World.heap_drewN] <;> omega) | fail) only [World.cell?_alloc_past, World.cell?_alloc_at, World.frozen?_alloc_past, World.frozen?_alloc_at, World.frozen?_setCell, World.cell?_drew, World.frozen?_drew]) <;> first | (with_reducible assumption) | rfl))
  case b4 => (first | (with_reducible assumption) | ((try simp (disch := first | omega | (simp only [World.size_alloc, World.size_setCell, World.size_drew, World.heap_drewN] <;> omega) | fail) only [World.cell?_alloc_past, World.cell?_alloc_at, World.frozen?_alloc_past, World.frozen?_alloc_at, World.frozen?_setCell, World.cell?_drew, World.frozen?_drew]) <;> first | (with_reducible assumption) | rfl))
  case b5 => (first | (with_reducible assumption) | ((try simp (disch := first | omega | (simp only [World.size_alloc, World.size_setCell, World.size_drew, World.heap_drewN] <;> omega) | fail) only [World.cell?_alloc_past, World.cell?_alloc_at, World.frozen?_alloc_past, World.frozen?_alloc_at, World.frozen?_setCell, World.cell?_drew, World.frozen?_drew]) <;> first | (with_reducible assumption) | rfl))
  case b6 => (first | (with_reducible assumption) | ((try simp (disch := first | omega | (simp only [World.size_alloc, World.size_setCell, World.size_drew, World.heap_drewN] <;> omega) | fail) only [World.cell?_alloc_past, World.cell?_alloc_at, World.frozen?_alloc_past, World.frozen?_alloc_at, World.frozen?_setCell, World.cell?_drew, World.frozen?_drew]) <;> first | (with_reducible assumption) | rfl))
  case b7 => (first | (with_reducible assumption) | ((try simp (disch := first | omega | (simp only [World.size_alloc, World.size_setCell, World.size_drew, World.heap_drewN] <;> omega) | fail) only [World.cell?_alloc_past, World.cell?_alloc_at, World.frozen?_alloc_past, World.frozen?_alloc_at, World.frozen?_setCell, World.cell?_drew, World.frozen?_drew]) <;> first | (with_reducible assumption) | rfl))
  case b8 => (first | (with_reducible assumption) | ((try simp (disch := first | omega | (simp only [World.size_alloc, World.size_setCell, World.size_drew, World.heap_drewN] <;> omega) | fail) only [World.cell?_alloc_past, World.cell?_alloc_at, World.frozen?_alloc_past, World.frozen?_alloc_at, World.frozen?_setCell, World.cell?_drew, World.frozen?_drew]) <;> first | (with_reducible assumption) | rfl))
  case kb =>
    intro W q o o' hl _ _ k hk
    simp at hl
    exact World.putObj_heap_other (by omega)
  case ps =>
    intro x hx
    simp only [pairsL, List.mem_map] at hx
    obtain ⟨k, _, rfl⟩ := hx
    rfl
  case hI =>
    intro k W W' h hc
    exact h.calm hc (by simp; omega)
  case hX =>
    intro k W W' h hc
    exact h.calm hc (by simp; omega)
  case h0 =>
    exact ⟨rfl, by (first | (with_reducible assumption) | ((try simp (disch := first | omega | (simp only [World.size_alloc, World.size_setCell, World.size_drew, World.heap_drewN] <;> omega) | fail) only [World.cell?_alloc_past, World.cell?_alloc_at, World.frozen?_alloc_past, World.frozen?_alloc_at, World.frozen?_setCell, World.cell?_drew, World.frozen?_drew]) <;> first | (with_reducible assumption) | rfl)), by (first | (with_reducible assumption) | ((try simp (disch := first | omega | (simp only [World.size_alloc, World.size_setCell, World.size_drew, World.heap_drewN] <;> omega) | fail) only [World.cell?_alloc_past, World.cell?_alloc_at, World.frozen?_alloc_past, World.frozen?_alloc_at, World.frozen?_setCell, World.cell?_drew, World.frozen?_drew]) <;> first | (with_reducible assumption) | rfl)), by (first | (with_reducible assumption) | ((try simp (disch := first | omega | (simp only [World.size_alloc, World.size_setCell, World.size_drew, World.heap_drewN] <;> omega) | fail) only [World.cell?_alloc_past, World.cell?_alloc_at, World.frozen?_alloc_past, World.frozen?_alloc_at, World.frozen?_setCell, World.cell?_drew, World.frozen?_drew]) <;> first | (with_reducible assumption) | rfl)), by (first | (with_reducible assumption) | ((try simp (disch := first | omega | (simp only [World.size_alloc, World.size_setCell, World.size_drew, World.heap_drewN] <;> omega) | fail) only [World.cell?_alloc_past, World.cell?_alloc_at, World.frozen?_alloc_past, World.frozen?_alloc_at, World.frozen?_setCell, World.cell?_drew, World.frozen?_drew]) <;> first | (with_reducible assumption) | rfl)), by (first | (with_reducible assumption) | ((try simp (disch := first | omega | (simp only [World.size_alloc, World.size_setCell, World.size_drew, World.heap_drewN] <;> omega) | fail) only [World.cell?_alloc_past, World.cell?_alloc_at, World.frozen?_alloc_past, World.frozen?_alloc_at, World.frozen?_setCell, World.cell?_drew, World.frozen?_drew]) <;> first | (with_reducible assumption) | rfl)), by (first | (with_reducible assumption) | ((try simp (disch := first | omega | (simp only [World.size_alloc, World.size_setCell, World.size_drew, World.heap_drewN] <;> omega) | fail) only [World.cell?_alloc_past, World.cell?_alloc_at, World.frozen?_alloc_past, World.frozen?_alloc_at, World.frozen?_setCell, World.cell?_drew, World.frozen?_drew]) <;> first | (with_reducible assumption) | rfl)), by (repeat (first | (with_reducible exact Below.refl _ _) | (with_reducible assumption) | (with_reducible exact Hid.out (by with_reducible assumption)) | (with_reducible refine Below.alloc ?_ ?_ _) | (with_reducible refine Below.setCell ?_ ?_ _) | (with_reducible refine below_drewN ?_ _) | (with_reducible refine Below.drew ?_) | (with_reducible refine below_via (by with_reducible assumption) ?_ ?_) | (first | (with_reducible assumption) | omega | (simp only [World.size_alloc, World.size_setCell, World.size_drew, World.heap_drewN] <;> omega) | (simp <;> omega)))), by simp⟩
  case round =>
    intro q k W hq hk hi
    rw [HPL.out] at hk
    rw [HPG.out k hk]
    obtain ⟨hxx, hyy, hne⟩ := HXY.out k hk
    rw [hxx, hyy]
    obtain ⟨-, hc0, hc1, he0, hf0, hf1, hg0, hbel, hzW⟩ := hi
    have hzb : w.heap.size + 1 + 1 < W.heap.size := World.block_lt_of_cell? _ _ he0
    clear hxx hyy hk
    gi_wp2
    have hab : Below W.heap.size W (W.alloc (.cells #[.int .i64 X, .int .i64 Y] 55)) := (Below.refl _ _).alloc (Nat.le_refl _) _
    refine ⟨keeps_below hab, fun i hi => hab.block i (by omega), ?_⟩
    intro W2 hc
    have q0 : W2.cell? ⟨W.heap.size, 0, none⟩ = some (.int .i64 X) := hc.cell (by ((try simp (disch := first | omega | (simp only [World.size_alloc] <;> omega) | fail) only [World.cell?_alloc_past, World.cell?_alloc_at, World.frozen?_alloc_past, World.frozen?_alloc_at]) <;> rfl))
    have q1 : W2.cell? ⟨W.heap.size, 1, none⟩ = some (.int .i64 Y) := hc.cell (by ((try simp (disch := first | omega | (simp only [World.size_alloc] <;> omega) | fail) only [World.cell?_alloc_past, World.cell?_alloc_at, World.frozen?_alloc_past, World.frozen?_alloc_at]) <;> rfl))
    have p0 : W2.cell? ⟨w.heap.size + 1, 0, none⟩ = some (.int .i64 0) := hc.cell ((hab.cell (p := ⟨w.heap.size + 1, 0, none⟩) (by dsimp only; omega)).trans hc0)
    have p1 : W2.cell? ⟨w.heap.size + 1, 1, none⟩ = some (.int .i64 0) := hc.cell ((hab.cell (p := ⟨w.heap.size + 1, 1, none⟩) (by dsimp only; omega)).trans hc1)
    have r0 : W2.cell? ⟨w.heap.size + 1 + 1, 0, none⟩ = some (.int .i64 0) := hc.cell ((hab.cell (p := ⟨w.heap.size + 1 + 1, 0, none⟩) (by dsimp only; omega)).trans he0)
    have m0 : W2.frozen? ⟨w.heap.size + 1, 0, none⟩ = false := hc.frozen ((hab.cell (p := ⟨w.heap.size + 1, 0, none⟩) (by dsimp only; omega)).trans hc0) ((hab.frozen (p := ⟨w.heap.size + 1, 0, none⟩) (by dsimp only; omega)).trans hf0)
    have m1 : W2.frozen? ⟨w.heap.size + 1, 1, none⟩ = false := hc.frozen ((hab.cell (p := ⟨w.heap.size + 1, 1, none⟩) (by dsimp only; omega)).trans hc1) ((hab.frozen (p := ⟨w.heap.size + 1, 1, none⟩) (by dsimp only; omega)).trans hf1)
    have m2 : W2.frozen? ⟨w.heap.size + 1 + 1, 0, none⟩ = false := hc.frozen ((hab.cell (p := ⟨w.heap.size + 1 + 1, 0, none⟩) (by dsimp only; omega)).trans he0) ((hab.frozen (p := ⟨w.heap.size + 1 + 1, 0, none⟩) (by dsimp only; omega)).trans hg0)
    have HB2 : Hid (Below w.heap.size w W2) := Lib.hid (hc.below (by simp; omega) (below_via hab hbel (by omega)))
    clear hbel hab hc hc0 hc1 he0 hf0 hf1 hg0
    gi_wp2
    obtain ⟨d0, d1, d2⟩ := at_set (x := .int .i64 X) (y := .int .i64 Y) (e := .int .i64 0) (show w.heap.size + 1 ≠ w.heap.size + 1 + 1 by omega) p0 p1 r0
    refine ⟨((KeepsOthers.setCell W2 ⟨w.heap.size + 1, 0, none⟩ _).trans (KeepsOthers.setCell _ ⟨w.heap.size + 1, 1, none⟩ _)).trans (KeepsOthers.setCell _ ⟨w.heap.size + 1 + 1, 0, none⟩ _), ⟨rfl, hne, d0, d1, d2, ((HB2.out.setCell (by dsimp only; omega) _).setCell (by dsimp only; omega) _).setCell (by dsimp only; omega) _⟩⟩
  case done =>
    intro D W hD hi hK
    obtain ⟨hz0, hc0, hc1, he0, hf0, hf1, hg0, hbl, -⟩ := hi
    rw [HPL.out] at hz0
    obtain ⟨rfl, rfl, rfl⟩ := NO.out hz0
    simp at hD
    have HBL := Lib.hid hbl
    clear hbl YES NO HPG HXY
    go_wp2
    obtain ⟨d0, d1, d2⟩ := at_set (x := .int .i64 0) (y := .int .i64 0) (e := .int .i64 6) (show w.heap.size + 1 ≠ w.heap.size + 1 + 1 by omega) hc0 hc1 he0
    have hB4 : Below w.heap.size w (((W.setCell ⟨w.heap.size + 1, 0, none⟩ (.int .i64 0)).setCell ⟨w.heap.size + 1, 1, none⟩ (.int .i64 0)).setCell ⟨w.heap.size + 1 + 1, 0, none⟩ (.int .i64 6)) := ((HBL.out.setCell (by dsimp only; omega) _).setCell (by dsimp only; omega) _).setCell (by dsimp only; omega) _
    have hK2 : (((W.setCell ⟨w.heap.size + 1, 0, none⟩ (.int .i64 0)).setCell ⟨w.heap.size + 1, 1, none⟩ (.int .i64 0)).setCell ⟨w.heap.size + 1 + 1, 0, none⟩ (.int .i64 6)).heap[D]? = some (.deferred (some [])) := by
      rw [Below.heap_setCell _ _ _ _ (by show D ≠ w.heap.size + 1 + 1; omega), Below.heap_setCell _ _ _ _ (by show D ≠ w.heap.size + 1; omega), Below.heap_setCell _ _ _ _ (by show D ≠ w.heap.size + 1; omega)]
      exact hK
    generalize (((W.setCell ⟨w.heap.size + 1, 0, none⟩ (.int .i64 0)).setCell ⟨w.heap.size + 1, 1, none⟩ (.int .i64 0)).setCell ⟨w.heap.size + 1 + 1, 0, none⟩ (.int .i64 6)) = W4 at *
    have hcalm : Calm (w.heap.size + 3) W4 (W4.putObj D (.deferred none)) := Calm.putObj _ (by omega) hK2 rfl
    exact postM_one hK2 (results_cc rfl rfl rfl (run_loadVar_many _ Try.underlying55 rfl (by kernel_rfl) (two_at (hcalm.cell d0) (hcalm.cell d1))) (run_loadVar_one Try.underlying35 rfl (hcalm.cell d2))) ⟨rfl, hcalm.below (by omega) hB4⟩
  case stop =>
    intro D c W hD hX hK
    obtain ⟨rfl, hne, hc0, hc1, he0, hbel⟩ := hX
    obtain rfl := YES.out hne
    simp at hD
    have hcalm : Calm (w.heap.size + 3) W (W.putObj D (.deferred none)) := Calm.putObj _ (by omega) hK rfl
    clear YES NO HPG HXY
    go_wp2
    exact postM_one hK (results_cc rfl rfl rfl (run_loadVar_many _ Try.underlying55 rfl (by kernel_rfl) (two_at (hcalm.cell hc0) (hcalm.cell hc1))) (run_loadVar_one Try.underlying35 rfl (hcalm.cell he0))) ⟨rfl, hcalm.below (by omega) hbel⟩

/-- what a slot has, and the error -/
def atS (c : SlC) (i : Int) : Int × Int × Int := if askS c i = 0 then (if bitW c.ws i.toNat = true then (c.ks.getD i.toNat 0, c.vs.getD i.toNat 0, 0) else (0, 0, 6)) else (0, 0, askS c i)
theorem At4_ok (c : SlC) (a : SlA) (hl : c.ws.length ≤ 1000000000000) (hl2 : c.ks.length ≤ 1000000000000) (i : Int) (w : World) (hin : SlIn w c a) :
    Calls Try.prog 25 #[slV c a, .int .i64 i] w (AnsB w (.tuple #[.agg #[.int .i64 (atS c i).1, .int .i64 (atS c i).2.1], .int .i64 (atS c i).2.2])) := by
  have AK := Lib.hid (fun W (hb : Below w.heap.size w W) => asked4_ok c a hl hl2 i W (hin.below hb))
  unfold atS
  by_cases h : askS c i = 0
  · rw [h] at AK
    rw [if_pos h]
    have hm : slMay c = true := by
      unfold askS at h
      split at h
      · assumption
      · cases h
    have hp : 0 ≤ i ∧ i < c.ks.length := by
      unfold askS at h
      rw [if_pos hm] at h
      split at h
      · assumption
      · cases h
    obtain ⟨S, M, -, -, -, hnk, hnv, -, -, hSM, -, hnw, -, -, -⟩ := slHead_facts (slMay_head hm)
    obtain ⟨p, rfl⟩ : ∃ p : Nat, i = p := ⟨i.toNat, by omega⟩
    rw [Int.toNat_natCast]
    have hlen : (prs c p (p + 1)).length ≤ 1 := by
      rw [prs_succ (Nat.le_refl p)]
      have : prs c p p = [] := by simp [prs, plsW]
      rw [this]
      split <;> simp
    have A := At4_in c a p (prs c p (p + 1)) hlen (by omega) w hin AK (Lib.hid fun S b1 b2 b3 s1 s2 s3 hS W hw hk hv hbx => pairs1_iter c a hin.u p (p + 1) (by omega) (by omega) (by omega) (by omega) (by omega) S b1 b2 b3 s1 s2 s3 hS W hw hk hv hbx)
    have e0 : prs c p p = [] := by simp [prs, plsW]
    rw [prs_succ (Nat.le_refl p), e0] at A
    by_cases hb : bitW c.ws p = true
    · rw [if_pos hb] at A ⊢
      exact A
    · rw [if_neg hb] at A ⊢
      exact A
  · rw [if_neg h]
    exact At4_no w _ _ _ _ _ _ _ _ _ _ _ _ _ _ i _ h AK
end Go.Proofs.Ytbmibaafkgleeaa
