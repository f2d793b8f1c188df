/-
  DownBack: Nth and Ahead go there and back; a leaf's count is above what is left.
  No condition.
-/
import Derived.Test.YtfmoghjddfjfmaaDwnA
import Derived.Test.YtfmoghjddfjfmaaDownPl
namespace Go.Proofs.Ytfmoghjddfjfmaa
open Go.RowKit
set_option linter.unusedVariables false
set_option linter.unusedSimpArgs false

set_option maxRecDepth 100000 in
set_option maxHeartbeats 1000000 in
theorem Back_great (l : Int) (ma ca : Option Addr) (mc cc n1 n2 : Nat) (k : Int) (w : World)
    (AL : Hid (∀ W, Calls Try.prog 17 #[] W (AnsB W (.bool true))))
    (GR : Hid (∀ W, Calls Try.prog 7 #[ixV l ma n1 mc ca n2 cc] W (AnsB W (.bool true)))) :
    Calls Try.prog 6 #[ixV l ma n1 mc ca n2 cc, .int .i64 k] w (AnsB w (.bool true)) := by
  go_enter Try.func6, Try.ntmps6
  go_wp2_with fail
  refine (AL.out _).mono ?_
  rintro e w1 ⟨rfl, hb1⟩
  have hz_w1 := hb1.size
  try simp only [World.size_alloc, World.size_setCell] at hz_w1
  have all_c : w1.cell? ⟨w.heap.size, 0, none⟩ = some (.int .i64 l) ∧ w1.cell? ⟨w.heap.size, 1, none⟩ = some (.slice ma n1 mc) ∧ w1.cell? ⟨w.heap.size, 2, none⟩ = some (.slice ca n2 cc) := by refine ⟨?_, ?_, ?_⟩ <;> (refine (hb1.cell ?_).trans ?_ <;> first | (first | (with_reducible assumption) | omega | (simp only [World.size_alloc, World.size_setCell, World.size_drew, World.heap_drewN] <;> omega) | (simp <;> omega)) | (first | (with_reducible assumption) | ((try simp (disch := first | omega | (simp only [World.size_alloc, World.size_setCell, World.size_drew, World.heap_drewN] <;> omega) | fail) only [World.cell?_alloc_past, World.cell?_alloc_at, World.frozen?_alloc_past, World.frozen?_alloc_at, World.frozen?_setCell, World.cell?_drew, World.frozen?_drew]) <;> first | (with_reducible assumption) | rfl)))
  have all_z : w.heap.size < w1.heap.size := by omega
  obtain ⟨c_x0, c_x1, c_x2⟩ := all_c
  try clear all_c
  have z_x := all_z
  try clear all_z
  have hB1 : Below w.heap.size w w1 := by (repeat (first | (with_reducible exact Below.refl _ _) | (with_reducible assumption) | (with_reducible exact Hid.out (by with_reducible assumption)) | (with_reducible refine Below.alloc ?_ ?_ _) | (with_reducible refine Below.setCell ?_ ?_ _) | (with_reducible refine below_drewN ?_ _) | (with_reducible refine Below.drew ?_) | (with_reducible refine below_via (by with_reducible assumption) ?_ ?_) | (first | (with_reducible assumption) | omega | (simp only [World.size_alloc, World.size_setCell, World.size_drew, World.heap_drewN] <;> omega) | (simp <;> omega))))
  go_wp2_with fail
  refine (GR.out _).mono ?_
  rintro e w2 ⟨rfl, hb2⟩
  have hz_w2 := hb2.size
  try simp only [World.size_alloc, World.size_setCell] at hz_w2
  have all_c : w2.cell? ⟨w.heap.size, 0, none⟩ = some (.int .i64 l) ∧ w2.cell? ⟨w.heap.size, 1, none⟩ = some (.slice ma n1 mc) ∧ w2.cell? ⟨w.heap.size, 2, none⟩ = some (.slice ca n2 cc) := by refine ⟨?_, ?_, ?_⟩ <;> (refine (hb2.cell ?_).trans ?_ <;> first | (first | (with_reducible assumption) | omega | (simp only [World.size_alloc, World.size_setCell, World.size_drew, World.heap_drewN] <;> omega) | (simp <;> omega)) | (first | (with_reducible assumption) | ((try simp (disch := first | omega | (simp only [World.size_alloc, World.size_setCell, World.size_drew, World.heap_drewN] <;> omega) | fail) only [World.cell?_alloc_past, World.cell?_alloc_at, World.frozen?_alloc_past, World.frozen?_alloc_at, World.frozen?_setCell, World.cell?_drew, World.frozen?_drew]) <;> first | (with_reducible assumption) | rfl)))
  have all_z : w.heap.size < w2.heap.size := by omega
  clear c_x0 c_x1 c_x2 z_x
  obtain ⟨c_x0, c_x1, c_x2⟩ := all_c
  try clear all_c
  have z_x := all_z
  try clear all_z
  have hB2 : Below w.heap.size w w2 := by (repeat (first | (with_reducible exact Below.refl _ _) | (with_reducible assumption) | (with_reducible exact Hid.out (by with_reducible assumption)) | (with_reducible refine Below.alloc ?_ ?_ _) | (with_reducible refine Below.setCell ?_ ?_ _) | (with_reducible refine below_drewN ?_ _) | (with_reducible refine Below.drew ?_) | (with_reducible refine below_via (by with_reducible assumption) ?_ ?_) | (first | (with_reducible assumption) | omega | (simp only [World.size_alloc, World.size_setCell, World.size_drew, World.heap_drewN] <;> omega) | (simp <;> omega))))
  go_wp2
  go_ret
  exact ⟨rfl, hB2⟩

set_option maxRecDepth 100000 in
set_option maxHeartbeats 1000000 in
theorem Back_no (l : Int) (ma ca : Option Addr) (mc cc n1 n2 : Nat) (k e : Int) (he : e ≠ 0) (w : World)
    (AL : Hid (∀ W, Calls Try.prog 17 #[] W (AnsB W (.bool true))))
    (GR : Hid (∀ W, Calls Try.prog 7 #[ixV l ma n1 mc ca n2 cc] W (AnsB W (.bool false))))
    (NT : Hid (∀ W, Below w.heap.size w W → Calls Try.prog 11 #[ixV l ma n1 mc ca n2 cc, .int .i64 k] W (AnsB W (.tuple #[.int .i64 0, .int .i64 0, .int .i64 e])))) :
    Calls Try.prog 6 #[ixV l ma n1 mc ca n2 cc, .int .i64 k] w (AnsB w (.bool true)) := by
  have g1 : (e != 0) = true := by simpa using he
  clear he
  go_enter Try.func6, Try.ntmps6
  go_wp2_with fail
  refine (AL.out _).mono ?_
  rintro e w1 ⟨rfl, hb1⟩
  have hz_w1 := hb1.size
  try simp only [World.size_alloc, World.size_setCell] at hz_w1
  have all_c : w1.cell? ⟨w.heap.size, 0, none⟩ = some (.int .i64 l) ∧ w1.cell? ⟨w.heap.size, 1, none⟩ = some (.slice ma n1 mc) ∧ w1.cell? ⟨w.heap.size, 2, none⟩ = some (.slice ca n2 cc) := by refine ⟨?_, ?_, ?_⟩ <;> (refine (hb1.cell ?_).trans ?_ <;> first | (first | (with_reducible assumption) | omega | (simp only [World.size_alloc, World.size_setCell, World.size_drew, World.heap_drewN] <;> omega) | (simp <;> omega)) | (first | (with_reducible assumption) | ((try simp (disch := first | omega | (simp only [World.size_alloc, World.size_setCell, World.size_drew, World.heap_drewN] <;> omega) | fail) only [World.cell?_alloc_past, World.cell?_alloc_at, World.frozen?_alloc_past, World.frozen?_alloc_at, World.frozen?_setCell, World.cell?_drew, World.frozen?_drew]) <;> first | (with_reducible assumption) | rfl)))
  have all_z : w.heap.size < w1.heap.size := by omega
  obtain ⟨c_x0, c_x1, c_x2⟩ := all_c
  try clear all_c
  have z_x := all_z
  try clear all_z
  have hB1 : Below w.heap.size w w1 := by (repeat (first | (with_reducible exact Below.refl _ _) | (with_reducible assumption) | (with_reducible exact Hid.out (by with_reducible assumption)) | (with_reducible refine Below.alloc ?_ ?_ _) | (with_reducible refine Below.setCell ?_ ?_ _) | (with_reducible refine below_drewN ?_ _) | (with_reducible refine Below.drew ?_) | (with_reducible refine below_via (by with_reducible assumption) ?_ ?_) | (first | (with_reducible assumption) | omega | (simp only [World.size_alloc, World.size_setCell, World.size_drew, World.heap_drewN] <;> omega) | (simp <;> omega))))
  go_wp2_with fail
  refine (GR.out _).mono ?_
  rintro e w2 ⟨rfl, hb2⟩
  have hz_w2 := hb2.size
  try simp only [World.size_alloc, World.size_setCell] at hz_w2
  have all_c : w2.cell? ⟨w.heap.size, 0, none⟩ = some (.int .i64 l) ∧ w2.cell? ⟨w.heap.size, 1, none⟩ = some (.slice ma n1 mc) ∧ w2.cell? ⟨w.heap.size, 2, none⟩ = some (.slice ca n2 cc) := by refine ⟨?_, ?_, ?_⟩ <;> (refine (hb2.cell ?_).trans ?_ <;> first | (first | (with_reducible assumption) | omega | (simp only [World.size_alloc, World.size_setCell, World.size_drew, World.heap_drewN] <;> omega) | (simp <;> omega)) | (first | (with_reducible assumption) | ((try simp (disch := first | omega | (simp only [World.size_alloc, World.size_setCell, World.size_drew, World.heap_drewN] <;> omega) | fail) only [World.cell?_alloc_past, World.cell?_alloc_at, World.frozen?_alloc_past, World.frozen?_alloc_at, World.frozen?_setCell, World.cell?_drew, World.frozen?_drew]) <;> first | (with_reducible assumption) | rfl)))
  have all_z : w.heap.size < w2.heap.size := by omega
  clear c_x0 c_x1 c_x2 z_x
  obtain ⟨c_x0, c_x1, c_x2⟩ := all_c
  try clear all_c
  have z_x := all_z
  try clear all_z
  have hB2 : Below w.heap.size w w2 := by (repeat (first | (with_reducible exact Below.refl _ _) | (with_reducible assumption) | (with_reducible exact Hid.out (by with_reducible assumption)) | (with_reducible refine Below.alloc ?_ ?_ _) | (with_reducible refine Below.setCell ?_ ?_ _) | (with_reducible refine below_drewN ?_ _) | (with_reducible refine Below.drew ?_) | (with_reducible refine below_via (by with_reducible assumption) ?_ ?_) | (first | (with_reducible assumption) | omega | (simp only [World.size_alloc, World.size_setCell, World.size_drew, World.heap_drewN] <;> omega) | (simp <;> omega))))
  go_wp2_with fail
  refine (NT.out _ hB2).mono ?_
  rintro e w3 ⟨rfl, hb3⟩
  have hz_w3 := hb3.size
  try simp only [World.size_alloc, World.size_setCell] at hz_w3
  have all_c : w3.cell? ⟨w.heap.size, 0, none⟩ = some (.int .i64 l) ∧ w3.cell? ⟨w.heap.size, 1, none⟩ = some (.slice ma n1 mc) ∧ w3.cell? ⟨w.heap.size, 2, none⟩ = some (.slice ca n2 cc) := by refine ⟨?_, ?_, ?_⟩ <;> (refine (hb3.cell ?_).trans ?_ <;> first | (first | (with_reducible assumption) | omega | (simp only [World.size_alloc, World.size_setCell, World.size_drew, World.heap_drewN] <;> omega) | (simp <;> omega)) | (first | (with_reducible assumption) | ((try simp (disch := first | omega | (simp only [World.size_alloc, World.size_setCell, World.size_drew, World.heap_drewN] <;> omega) | fail) only [World.cell?_alloc_past, World.cell?_alloc_at, World.frozen?_alloc_past, World.frozen?_alloc_at, World.frozen?_setCell, World.cell?_drew, World.frozen?_drew]) <;> first | (with_reducible assumption) | rfl)))
  have all_z : w.heap.size < w3.heap.size := by omega
  clear c_x0 c_x1 c_x2 z_x
  obtain ⟨c_x0, c_x1, c_x2⟩ := all_c
  try clear all_c
  have z_x := all_z
  try clear all_z
  have hB3 : Below w.heap.size w w3 := by (repeat (first | (with_reducible exact Below.refl _ _) | (with_reducible assumption) | (with_reducible exact Hid.out (by with_reducible assumption)) | (with_reducible refine Below.alloc ?_ ?_ _) | (with_reducible refine Below.setCell ?_ ?_ _) | (with_reducible refine below_drewN ?_ _) | (with_reducible refine Below.drew ?_) | (with_reducible refine below_via (by with_reducible assumption) ?_ ?_) | (first | (with_reducible assumption) | omega | (simp only [World.size_alloc, World.size_setCell, World.size_drew, World.heap_drewN] <;> omega) | (simp <;> omega))))
  go_wp2
  go_ret
  exact ⟨rfl, hB3⟩

set_option maxRecDepth 100000 in
set_option maxHeartbeats 1000000 in
theorem Back_yes (l : Int) (ma ca : Option Addr) (mc cc n1 n2 : Nat) (k j r a n c t : Int) (h1 : 0 ≤ r) (h2 : r < c) (h3 : a + r = k) (h4 : 0 ≤ a) (h5 : a ≤ 65536) (h6 : k ≤ 9223372036854775807) (w : World)
    (AL : Hid (∀ W, Calls Try.prog 17 #[] W (AnsB W (.bool true))))
    (GR : Hid (∀ W, Calls Try.prog 7 #[ixV l ma n1 mc ca n2 cc] W (AnsB W (.bool false))))
    (NT : Hid (∀ W, Below w.heap.size w W → Calls Try.prog 11 #[ixV l ma n1 mc ca n2 cc, .int .i64 k] W (AnsB W (.tuple #[.int .i64 j, .int .i64 r, .int .i64 0]))))
    (AH : Hid (∀ W, Below w.heap.size w W → Calls Try.prog 13 #[ixV l ma n1 mc ca n2 cc, .int .i64 j] W (AnsB W (.tuple #[.int .i64 a, .int .i64 0]))))
    (LF : Hid (∀ W, Calls Try.prog 20 #[.int .i64 l, .int .i64 j] W fun e w' => e = .returned (.tuple #[.int .i64 n, .int .i64 0]) ∧ W = w'))
    (AT : Hid (∀ W, Below w.heap.size w W → Calls Try.prog 21 #[ixV l ma n1 mc ca n2 cc, .int .i64 n] W (AnsB W (.tuple #[.int .i64 t, .int .i64 c, .int .i64 0])))) :
    Calls Try.prog 6 #[ixV l ma n1 mc ca n2 cc, .int .i64 k] w (AnsB w (.bool true)) := by
  have g1 : (k == k) = true := by simp
  have g2 : IntKind.i64.wrap (a + r) = k := by rw [IntWalk.i64_in _ (by omega), h3]
  clear h3
  go_enter Try.func6, Try.ntmps6
  go_wp2_with fail
  refine (AL.out _).mono ?_
  rintro e w1 ⟨rfl, hb1⟩
  have hz_w1 := hb1.size
  try simp only [World.size_alloc, World.size_setCell] at hz_w1
  have all_c : w1.cell? ⟨w.heap.size, 0, none⟩ = some (.int .i64 l) ∧ w1.cell? ⟨w.heap.size, 1, none⟩ = some (.slice ma n1 mc) ∧ w1.cell? ⟨w.heap.size, 2, none⟩ = some (.slice ca n2 cc) := by refine ⟨?_, ?_, ?_⟩ <;> (refine (hb1.cell ?_).trans ?_ <;> first | (first | (with_reducible assumption) | omega | (simp only [World.size_alloc, World.size_setCell, World.size_drew, World.heap_drewN] <;> omega) | (simp <;> omega)) | (first | (with_reducible assumption) | ((try simp (disch := first | omega | (simp only [World.size_alloc, World.size_setCell, World.size_drew, World.heap_drewN] <;> omega) | fail) only [World.cell?_alloc_past, World.cell?_alloc_at, World.frozen?_alloc_past, World.frozen?_alloc_at, World.frozen?_setCell, World.cell?_drew, World.frozen?_drew]) <;> first | (with_reducible assumption) | rfl)))
  have all_z : w.heap.size < w1.heap.size := by omega
  obtain ⟨c_x0, c_x1, c_x2⟩ := all_c
  try clear all_c
  have z_x := all_z
  try clear all_z
  have hB1 : Below w.heap.size w w1 := by (repeat (first | (with_reducible exact Below.refl _ _) | (with_reducible assumption) | (with_reducible exact Hid.out (by with_reducible assumption)) | (with_reducible refine Below.alloc ?_ ?_ _) | (with_reducible refine Below.setCell ?_ ?_ _) | (with_reducible refine below_drewN ?_ _) | (with_reducible refine Below.drew ?_) | (with_reducible refine below_via (by with_reducible assumption) ?_ ?_) | (first | (with_reducible assumption) | omega | (simp only [World.size_alloc, World.size_setCell, World.size_drew, World.heap_drewN] <;> omega) | (simp <;> omega))))
  go_wp2_with fail
  refine (GR.out _).mono ?_
  rintro e w2 ⟨rfl, hb2⟩
  have hz_w2 := hb2.size
  try simp only [World.size_alloc, World.size_setCell] at hz_w2
  have all_c : w2.cell? ⟨w.heap.size, 0, none⟩ = some (.int .i64 l) ∧ w2.cell? ⟨w.heap.size, 1, none⟩ = some (.slice ma n1 mc) ∧ w2.cell? ⟨w.heap.size, 2, none⟩ = some (.slice ca n2 cc) := by refine ⟨?_, ?_, ?_⟩ <;> (refine (hb2.cell ?_).trans ?_ <;> first | (first | (with_reducible assumption) | omega | (simp only [World.size_alloc, World.size_setCell, World.size_drew, World.heap_drewN] <;> omega) | (simp <;> omega)) | (first | (with_reducible assumption) | ((try simp (disch := first | omega | (simp only [World.size_alloc, World.size_setCell, World.size_drew, World.heap_drewN] <;> omega) | fail) only [World.cell?_alloc_past, World.cell?_alloc_at, World.frozen?_alloc_past, World.frozen?_alloc_at, World.frozen?_setCell, World.cell?_drew, World.frozen?_drew]) <;> first | (with_reducible assumption) | rfl)))
  have all_z : w.heap.size < w2.heap.size := by omega
  clear c_x0 c_x1 c_x2 z_x
  obtain ⟨c_x0, c_x1, c_x2⟩ := all_c
  try clear all_c
  have z_x := all_z
  try clear all_z
  have hB2 : Below w.heap.size w w2 := by (repeat (first | (with_reducible exact Below.refl _ _) | (with_reducible assumption) | (with_reducible exact Hid.out (by with_reducible assumption)) | (with_reducible refine Below.alloc ?_ ?_ _) | (with_reducible refine Below.setCell ?_ ?_ _) | (with_reducible refine below_drewN ?_ _) | (with_reducible refine Below.drew ?_) | (with_reducible refine below_via (by with_reducible assumption) ?_ ?_) | (first | (with_reducible assumption) | omega | (simp only [World.size_alloc, World.size_setCell, World.size_drew, World.heap_drewN] <;> omega) | (simp <;> omega))))
  go_wp2_with fail
  refine (NT.out _ hB2).mono ?_
  rintro e w3 ⟨rfl, hb3⟩
  have hz_w3 := hb3.size
  try simp only [World.size_alloc, World.size_setCell] at hz_w3
  have all_c : w3.cell? ⟨w.heap.size, 0, none⟩ = some (.int .i64 l) ∧ w3.cell? ⟨w.heap.size, 1, none⟩ = some (.slice ma n1 mc) ∧ w3.cell? ⟨w.heap.size, 2, none⟩ = some (.slice ca n2 cc) := by refine ⟨?_, ?_, ?_⟩ <;> (refine (hb3.cell ?_).trans ?_ <;> first | (first | (with_reducible assumption) | omega | (simp only [World.size_alloc, World.size_setCell, World.size_drew, World.heap_drewN] <;> omega) | (simp <;> omega)) | (first | (with_reducible assumption) | ((try simp (disch := first | omega | (simp only [World.size_alloc, World.size_setCell, World.size_drew, World.heap_drewN] <;> omega) | fail) only [World.cell?_alloc_past, World.cell?_alloc_at, World.frozen?_alloc_past, World.frozen?_alloc_at, World.frozen?_setCell, World.cell?_drew, World.frozen?_drew]) <;> first | (with_reducible assumption) | rfl)))
  have all_z : w.heap.size < w3.heap.size := by omega
  clear c_x0 c_x1 c_x2 z_x
  obtain ⟨c_x0, c_x1, c_x2⟩ := all_c
  try clear all_c
  have z_x := all_z
  try clear all_z
  have hB3 : Below w.heap.size w w3 := by (repeat (first | (with_reducible exact Below.refl _ _) | (with_reducible assumption) | (with_reducible exact Hid.out (by with_reducible assumption)) | (with_reducible refine Below.alloc ?_ ?_ _) | (with_reducible refine Below.setCell ?_ ?_ _) | (with_reducible refine below_drewN ?_ _) | (with_reducible refine Below.drew ?_) | (with_reducible refine below_via (by with_reducible assumption) ?_ ?_) | (first | (with_reducible assumption) | omega | (simp only [World.size_alloc, World.size_setCell, World.size_drew, World.heap_drewN] <;> omega) | (simp <;> omega))))
  go_wp2_with fail
  refine (AH.out _ hB3).mono ?_
  rintro e w4 ⟨rfl, hb4⟩
  have hz_w4 := hb4.size
  try simp only [World.size_alloc, World.size_setCell] at hz_w4
  have all_c : w4.cell? ⟨w.heap.size, 0, none⟩ = some (.int .i64 l) ∧ w4.cell? ⟨w.heap.size, 1, none⟩ = some (.slice ma n1 mc) ∧ w4.cell? ⟨w.heap.size, 2, none⟩ = some (.slice ca n2 cc) := by refine ⟨?_, ?_, ?_⟩ <;> (refine (hb4.cell ?_).trans ?_ <;> first | (first | (with_reducible assumption) | omega | (simp only [World.size_alloc, World.size_setCell, World.size_drew, World.heap_drewN] <;> omega) | (simp <;> omega)) | (first | (with_reducible assumption) | ((try simp (disch := first | omega | (simp only [World.size_alloc, World.size_setCell, World.size_drew, World.heap_drewN] <;> omega) | fail) only [World.cell?_alloc_past, World.cell?_alloc_at, World.frozen?_alloc_past, World.frozen?_alloc_at, World.frozen?_setCell, World.cell?_drew, World.frozen?_drew]) <;> first | (with_reducible assumption) | rfl)))
  have all_z : w.heap.size < w4.heap.size := by omega
  clear c_x0 c_x1 c_x2 z_x
  obtain ⟨c_x0, c_x1, c_x2⟩ := all_c
  try clear all_c
  have z_x := all_z
  try clear all_z
  have hB4 : Below w.heap.size w w4 := by (repeat (first | (with_reducible exact Below.refl _ _) | (with_reducible assumption) | (with_reducible exact Hid.out (by with_reducible assumption)) | (with_reducible refine Below.alloc ?_ ?_ _) | (with_reducible refine Below.setCell ?_ ?_ _) | (with_reducible refine below_drewN ?_ _) | (with_reducible refine Below.drew ?_) | (with_reducible refine below_via (by with_reducible assumption) ?_ ?_) | (first | (with_reducible assumption) | omega | (simp only [World.size_alloc, World.size_setCell, World.size_drew, World.heap_drewN] <;> omega) | (simp <;> omega))))
  go_wp2_with fail
  refine (LF.out _).mono ?_
  rintro e w' ⟨rfl, rfl⟩
  go_wp2_with fail
  refine (AT.out _ hB4).mono ?_
  rintro e w5 ⟨rfl, hb5⟩
  have hz_w5 := hb5.size
  try simp only [World.size_alloc, World.size_setCell] at hz_w5
  have all_c : w5.cell? ⟨w.heap.size, 0, none⟩ = some (.int .i64 l) ∧ w5.cell? ⟨w.heap.size, 1, none⟩ = some (.slice ma n1 mc) ∧ w5.cell? ⟨w.heap.size, 2, none⟩ = some (.slice ca n2 cc) := by refine ⟨?_, ?_, ?_⟩ <;> (refine (hb5.cell ?_).trans ?_ <;> first | (first | (with_reducible assumption) | omega | (simp only [World.size_alloc, World.size_setCell, World.size_drew, World.heap_drewN] <;> omega) | (simp <;> omega)) | (first | (with_reducible assumption) | ((try simp (disch := first | omega | (simp only [World.size_alloc, World.size_setCell, World.size_drew, World.heap_drewN] <;> omega) | fail) only [World.cell?_alloc_past, World.cell?_alloc_at, World.frozen?_alloc_past, World.frozen?_alloc_at, World.frozen?_setCell, World.cell?_drew, World.frozen?_drew]) <;> first | (with_reducible assumption) | rfl)))
  have all_z : w.heap.size < w5.heap.size := by omega
  clear c_x0 c_x1 c_x2 z_x
  obtain ⟨c_x0, c_x1, c_x2⟩ := all_c
  try clear all_c
  have z_x := all_z
  try clear all_z
  have hB5 : Below w.heap.size w w5 := by (repeat (first | (with_reducible exact Below.refl _ _) | (with_reducible assumption) | (with_reducible exact Hid.out (by with_reducible assumption)) | (with_reducible refine Below.alloc ?_ ?_ _) | (with_reducible refine Below.setCell ?_ ?_ _) | (with_reducible refine below_drewN ?_ _) | (with_reducible refine Below.drew ?_) | (with_reducible refine below_via (by with_reducible assumption) ?_ ?_) | (first | (with_reducible assumption) | omega | (simp only [World.size_alloc, World.size_setCell, World.size_drew, World.heap_drewN] <;> omega) | (simp <;> omega))))
  go_wp2
  go_ret
  exact ⟨rfl, hB5⟩

theorem DownBack_walk (w : World) (l : Int) (ma ca : Option Addr) (mc cc : Nat) (ms cs : List Int) (hm : IsRow .i64 w ma ms) (hc : IsRow .i64 w ca cs) (hmn : ma = none → mc = 0) (hcn : ca = none → cc = 0) (hlm : ms.length ≤ maxLen) (hlc : cs.length ≤ maxLen)
    (k : Int) (hk : (Lit.int .i64 k).wf = true) :
    Calls Try.prog 6 #[ixV l ma ms.length mc ca cs.length cc, .int .i64 k] w fun e w' => e = .returned (.bool true) ∧ Below w.heap.size w w' := by
  have AL := Lib.hid down_alive
  simp only [Lit.wf, Bool.and_eq_true, decide_eq_true_eq] at hk
  have k1 : -9223372036854775808 ≤ k := hk.1
  have k2 : k ≤ 9223372036854775807 := hk.2
  by_cases h : ms.length ≤ 600 ∧ cs.length ≤ 600
  · have GR := Lib.hid (fun W => Great18_no l ma ca ms.length mc cs.length cc h.1 h.2 W)
    have NT := Lib.hid (fun W (hb : Below w.heap.size w W) => Nth_ix l k k1 k2 ma ca mc cc ms cs W (hm.below hb) (hc.below hb))
    rcases nthT_at (l := l) (k := k) (ms := ms) (cs := cs) with (e1 | e1) | ⟨j, n, F, r, c, a, e1, e2, e3, e4, e5, e6, e7, e8, e9, e10, e11⟩
    · rw [e1] at NT
      exact Back_no l ma ca mc cc _ _ k _ (by decide) w AL GR NT
    · rw [e1] at NT
      exact Back_no l ma ca mc cc _ _ k _ (by decide) w AL GR NT
    · rw [e1] at NT
      have AH := Lib.hid (fun W (hb : Below w.heap.size w W) => Ahead_ix l j ma ca mc cc ms cs W (hm.below hb) (hc.below hb))
      rw [e4] at AH
      have LF := Lib.hid (fun W => Leaf_any l j W)
      rw [e8, e9] at LF
      have AT := Lib.hid (fun W (hb : Below w.heap.size w W) => At_ix l n ma ca mc cc ms cs W (hm.below hb) (hc.below hb))
      rw [e10, e11] at AT
      exact Back_yes l ma ca mc cc _ _ k j r a n c _ e2 e3 e5 e6 e7 k2 w AL GR NT AH LF AT
  · exact Back_great l ma ca mc cc _ _ k w AL (Lib.hid fun W => Great18_yes l ma ca ms.length mc cs.length cc (by omega) W)
end Go.Proofs.Ytfmoghjddfjfmaa
