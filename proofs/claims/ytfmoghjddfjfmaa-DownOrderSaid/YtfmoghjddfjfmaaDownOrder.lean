/-
  DownOrder: of a greater key the leaf is no less, and no fewer keys stand ahead; what stands ahead of the leaf is what Ahead tells.
  No condition.
-/
import Derived.Test.YtfmoghjddfjfmaaDwnA
import Derived.Test.YtfmoghjddfjfmaaDownPl
namespace Go.Proofs.Ytfmoghjddfjfmaa
open Go.RowKit
set_option linter.unusedVariables false
set_option linter.unusedSimpArgs false

set_option maxRecDepth 100000 in
set_option maxHeartbeats 1000000 in
theorem Order_great (l : Int) (ma ca : Option Addr) (mc cc n1 n2 : Nat) (a b : Int) (w : World)
    (AL : Hid (∀ W, Calls Try.prog 17 #[] W (AnsB W (.bool true))))
    (GR : Hid (∀ W, Calls Try.prog 7 #[ixV l ma n1 mc ca n2 cc] W (AnsB W (.bool true)))) :
    Calls Try.prog 5 #[ixV l ma n1 mc ca n2 cc, .int .i64 a, .int .i64 b] w (AnsB w (.bool true)) := by
  go_enter Try.func5, Try.ntmps5
  go_wp2_with fail
  refine (AL.out _).mono ?_
  rintro e w1 ⟨rfl, hb1⟩
  have hz_w1 := hb1.size
  try simp only [World.size_alloc, World.size_setCell] at hz_w1
  have all_c : w1.cell? ⟨w.heap.size, 0, none⟩ = some (.int .i64 l) ∧ w1.cell? ⟨w.heap.size, 1, none⟩ = some (.slice ma n1 mc) ∧ w1.cell? ⟨w.heap.size, 2, none⟩ = some (.slice ca n2 cc) := by refine ⟨?_, ?_, ?_⟩ <;> (refine (hb1.cell ?_).trans ?_ <;> first | (first | (with_reducible assumption) | omega | (simp only [World.size_alloc, World.size_setCell, World.size_drew, World.heap_drewN] <;> omega) | (simp <;> omega)) | (first | (with_reducible assumption) | ((try simp (disch := first | omega | (simp only [World.size_alloc, World.size_setCell, World.size_drew, World.heap_drewN] <;> omega) | fail) only [World.cell?_alloc_past, World.cell?_alloc_at, World.frozen?_alloc_past, World.frozen?_alloc_at, World.frozen?_setCell, World.cell?_drew, World.frozen?_drew]) <;> first | (with_reducible assumption) | rfl)))
  have all_z : w.heap.size < w1.heap.size := by omega
  obtain ⟨c_x0, c_x1, c_x2⟩ := all_c
  try clear all_c
  have z_x := all_z
  try clear all_z
  have hB1 : Below w.heap.size w w1 := by (repeat (first | (with_reducible exact Below.refl _ _) | (with_reducible assumption) | (with_reducible exact Hid.out (by with_reducible assumption)) | (with_reducible refine Below.alloc ?_ ?_ _) | (with_reducible refine Below.setCell ?_ ?_ _) | (with_reducible refine below_drewN ?_ _) | (with_reducible refine Below.drew ?_) | (with_reducible refine below_via (by with_reducible assumption) ?_ ?_) | (first | (with_reducible assumption) | omega | (simp only [World.size_alloc, World.size_setCell, World.size_drew, World.heap_drewN] <;> omega) | (simp <;> omega))))
  go_wp2_with fail
  refine (GR.out _).mono ?_
  rintro e w2 ⟨rfl, hb2⟩
  have hz_w2 := hb2.size
  try simp only [World.size_alloc, World.size_setCell] at hz_w2
  have all_c : w2.cell? ⟨w.heap.size, 0, none⟩ = some (.int .i64 l) ∧ w2.cell? ⟨w.heap.size, 1, none⟩ = some (.slice ma n1 mc) ∧ w2.cell? ⟨w.heap.size, 2, none⟩ = some (.slice ca n2 cc) := by refine ⟨?_, ?_, ?_⟩ <;> (refine (hb2.cell ?_).trans ?_ <;> first | (first | (with_reducible assumption) | omega | (simp only [World.size_alloc, World.size_setCell, World.size_drew, World.heap_drewN] <;> omega) | (simp <;> omega)) | (first | (with_reducible assumption) | ((try simp (disch := first | omega | (simp only [World.size_alloc, World.size_setCell, World.size_drew, World.heap_drewN] <;> omega) | fail) only [World.cell?_alloc_past, World.cell?_alloc_at, World.frozen?_alloc_past, World.frozen?_alloc_at, World.frozen?_setCell, World.cell?_drew, World.frozen?_drew]) <;> first | (with_reducible assumption) | rfl)))
  have all_z : w.heap.size < w2.heap.size := by omega
  clear c_x0 c_x1 c_x2 z_x
  obtain ⟨c_x0, c_x1, c_x2⟩ := all_c
  try clear all_c
  have z_x := all_z
  try clear all_z
  have hB2 : Below w.heap.size w w2 := by (repeat (first | (with_reducible exact Below.refl _ _) | (with_reducible assumption) | (with_reducible exact Hid.out (by with_reducible assumption)) | (with_reducible refine Below.alloc ?_ ?_ _) | (with_reducible refine Below.setCell ?_ ?_ _) | (with_reducible refine below_drewN ?_ _) | (with_reducible refine Below.drew ?_) | (with_reducible refine below_via (by with_reducible assumption) ?_ ?_) | (first | (with_reducible assumption) | omega | (simp only [World.size_alloc, World.size_setCell, World.size_drew, World.heap_drewN] <;> omega) | (simp <;> omega))))
  go_wp2
  go_ret
  exact ⟨rfl, hB2⟩

set_option maxRecDepth 100000 in
set_option maxHeartbeats 1000000 in
theorem Order_over (l : Int) (ma ca : Option Addr) (mc cc n1 n2 : Nat) (a b : Int) (hab : b < a) (w : World)
    (AL : Hid (∀ W, Calls Try.prog 17 #[] W (AnsB W (.bool true))))
    (GR : Hid (∀ W, Calls Try.prog 7 #[ixV l ma n1 mc ca n2 cc] W (AnsB W (.bool false)))) :
    Calls Try.prog 5 #[ixV l ma n1 mc ca n2 cc, .int .i64 a, .int .i64 b] w (AnsB w (.bool true)) := by
  go_enter Try.func5, Try.ntmps5
  go_wp2_with fail
  refine (AL.out _).mono ?_
  rintro e w1 ⟨rfl, hb1⟩
  have hz_w1 := hb1.size
  try simp only [World.size_alloc, World.size_setCell] at hz_w1
  have all_c : w1.cell? ⟨w.heap.size, 0, none⟩ = some (.int .i64 l) ∧ w1.cell? ⟨w.heap.size, 1, none⟩ = some (.slice ma n1 mc) ∧ w1.cell? ⟨w.heap.size, 2, none⟩ = some (.slice ca n2 cc) := by refine ⟨?_, ?_, ?_⟩ <;> (refine (hb1.cell ?_).trans ?_ <;> first | (first | (with_reducible assumption) | omega | (simp only [World.size_alloc, World.size_setCell, World.size_drew, World.heap_drewN] <;> omega) | (simp <;> omega)) | (first | (with_reducible assumption) | ((try simp (disch := first | omega | (simp only [World.size_alloc, World.size_setCell, World.size_drew, World.heap_drewN] <;> omega) | fail) only [World.cell?_alloc_past, World.cell?_alloc_at, World.frozen?_alloc_past, World.frozen?_alloc_at, World.frozen?_setCell, World.cell?_drew, World.frozen?_drew]) <;> first | (with_reducible assumption) | rfl)))
  have all_z : w.heap.size < w1.heap.size := by omega
  obtain ⟨c_x0, c_x1, c_x2⟩ := all_c
  try clear all_c
  have z_x := all_z
  try clear all_z
  have hB1 : Below w.heap.size w w1 := by (repeat (first | (with_reducible exact Below.refl _ _) | (with_reducible assumption) | (with_reducible exact Hid.out (by with_reducible assumption)) | (with_reducible refine Below.alloc ?_ ?_ _) | (with_reducible refine Below.setCell ?_ ?_ _) | (with_reducible refine below_drewN ?_ _) | (with_reducible refine Below.drew ?_) | (with_reducible refine below_via (by with_reducible assumption) ?_ ?_) | (first | (with_reducible assumption) | omega | (simp only [World.size_alloc, World.size_setCell, World.size_drew, World.heap_drewN] <;> omega) | (simp <;> omega))))
  go_wp2_with fail
  refine (GR.out _).mono ?_
  rintro e w2 ⟨rfl, hb2⟩
  have hz_w2 := hb2.size
  try simp only [World.size_alloc, World.size_setCell] at hz_w2
  have all_c : w2.cell? ⟨w.heap.size, 0, none⟩ = some (.int .i64 l) ∧ w2.cell? ⟨w.heap.size, 1, none⟩ = some (.slice ma n1 mc) ∧ w2.cell? ⟨w.heap.size, 2, none⟩ = some (.slice ca n2 cc) := by refine ⟨?_, ?_, ?_⟩ <;> (refine (hb2.cell ?_).trans ?_ <;> first | (first | (with_reducible assumption) | omega | (simp only [World.size_alloc, World.size_setCell, World.size_drew, World.heap_drewN] <;> omega) | (simp <;> omega)) | (first | (with_reducible assumption) | ((try simp (disch := first | omega | (simp only [World.size_alloc, World.size_setCell, World.size_drew, World.heap_drewN] <;> omega) | fail) only [World.cell?_alloc_past, World.cell?_alloc_at, World.frozen?_alloc_past, World.frozen?_alloc_at, World.frozen?_setCell, World.cell?_drew, World.frozen?_drew]) <;> first | (with_reducible assumption) | rfl)))
  have all_z : w.heap.size < w2.heap.size := by omega
  clear c_x0 c_x1 c_x2 z_x
  obtain ⟨c_x0, c_x1, c_x2⟩ := all_c
  try clear all_c
  have z_x := all_z
  try clear all_z
  have hB2 : Below w.heap.size w w2 := by (repeat (first | (with_reducible exact Below.refl _ _) | (with_reducible assumption) | (with_reducible exact Hid.out (by with_reducible assumption)) | (with_reducible refine Below.alloc ?_ ?_ _) | (with_reducible refine Below.setCell ?_ ?_ _) | (with_reducible refine below_drewN ?_ _) | (with_reducible refine Below.drew ?_) | (with_reducible refine below_via (by with_reducible assumption) ?_ ?_) | (first | (with_reducible assumption) | omega | (simp only [World.size_alloc, World.size_setCell, World.size_drew, World.heap_drewN] <;> omega) | (simp <;> omega))))
  go_wp2
  go_ret
  exact ⟨rfl, hB2⟩

set_option maxRecDepth 100000 in
set_option maxHeartbeats 1000000 in
theorem Order_no (l : Int) (ma ca : Option Addr) (mc cc n1 n2 : Nat) (a b : Int) (hab : a ≤ b) (m n e p q f : Int) (h : (e = 8 ∧ f = 8) ∨ (e = 0 ∧ f = 6) ∨ (e = 6 ∧ f = 6)) (w : World)
    (AL : Hid (∀ W, Calls Try.prog 17 #[] W (AnsB W (.bool true))))
    (GR : Hid (∀ W, Calls Try.prog 7 #[ixV l ma n1 mc ca n2 cc] W (AnsB W (.bool false))))
    (HA : Hid (∀ W, Below w.heap.size w W → Calls Try.prog 9 #[ixV l ma n1 mc ca n2 cc, .int .i64 a] W (AnsB W (.tuple #[.int .i64 m, .int .i64 n, .int .i64 e]))))
    (HB : Hid (∀ W, Below w.heap.size w W → Calls Try.prog 9 #[ixV l ma n1 mc ca n2 cc, .int .i64 b] W (AnsB W (.tuple #[.int .i64 p, .int .i64 q, .int .i64 f])))) :
    Calls Try.prog 5 #[ixV l ma n1 mc ca n2 cc, .int .i64 a, .int .i64 b] w (AnsB w (.bool true)) := by
  rcases h with ⟨rfl, rfl⟩ | ⟨rfl, rfl⟩ | ⟨rfl, rfl⟩
  all_goals
    go_enter Try.func5, Try.ntmps5
    go_wp2_with fail
    refine (AL.out _).mono ?_
    rintro e w1 ⟨rfl, hb1⟩
    have hz_w1 := hb1.size
    try simp only [World.size_alloc, World.size_setCell] at hz_w1
    have all_c : w1.cell? ⟨w.heap.size, 0, none⟩ = some (.int .i64 l) ∧ w1.cell? ⟨w.heap.size, 1, none⟩ = some (.slice ma n1 mc) ∧ w1.cell? ⟨w.heap.size, 2, none⟩ = some (.slice ca n2 cc) := by refine ⟨?_, ?_, ?_⟩ <;> (refine (hb1.cell ?_).trans ?_ <;> first | (first | (with_reducible assumption) | omega | (simp only [World.size_alloc, World.size_setCell, World.size_drew, World.heap_drewN] <;> omega) | (simp <;> omega)) | (first | (with_reducible assumption) | ((try simp (disch := first | omega | (simp only [World.size_alloc, World.size_setCell, World.size_drew, World.heap_drewN] <;> omega) | fail) only [World.cell?_alloc_past, World.cell?_alloc_at, World.frozen?_alloc_past, World.frozen?_alloc_at, World.frozen?_setCell, World.cell?_drew, World.frozen?_drew]) <;> first | (with_reducible assumption) | rfl)))
    have all_z : w.heap.size < w1.heap.size := by omega
    obtain ⟨c_x0, c_x1, c_x2⟩ := all_c
    try clear all_c
    have z_x := all_z
    try clear all_z
    have hB1 : Below w.heap.size w w1 := by (repeat (first | (with_reducible exact Below.refl _ _) | (with_reducible assumption) | (with_reducible exact Hid.out (by with_reducible assumption)) | (with_reducible refine Below.alloc ?_ ?_ _) | (with_reducible refine Below.setCell ?_ ?_ _) | (with_reducible refine below_drewN ?_ _) | (with_reducible refine Below.drew ?_) | (with_reducible refine below_via (by with_reducible assumption) ?_ ?_) | (first | (with_reducible assumption) | omega | (simp only [World.size_alloc, World.size_setCell, World.size_drew, World.heap_drewN] <;> omega) | (simp <;> omega))))
    go_wp2_with fail
    refine (GR.out _).mono ?_
    rintro e w2 ⟨rfl, hb2⟩
    have hz_w2 := hb2.size
    try simp only [World.size_alloc, World.size_setCell] at hz_w2
    have all_c : w2.cell? ⟨w.heap.size, 0, none⟩ = some (.int .i64 l) ∧ w2.cell? ⟨w.heap.size, 1, none⟩ = some (.slice ma n1 mc) ∧ w2.cell? ⟨w.heap.size, 2, none⟩ = some (.slice ca n2 cc) := by refine ⟨?_, ?_, ?_⟩ <;> (refine (hb2.cell ?_).trans ?_ <;> first | (first | (with_reducible assumption) | omega | (simp only [World.size_alloc, World.size_setCell, World.size_drew, World.heap_drewN] <;> omega) | (simp <;> omega)) | (first | (with_reducible assumption) | ((try simp (disch := first | omega | (simp only [World.size_alloc, World.size_setCell, World.size_drew, World.heap_drewN] <;> omega) | fail) only [World.cell?_alloc_past, World.cell?_alloc_at, World.frozen?_alloc_past, World.frozen?_alloc_at, World.frozen?_setCell, World.cell?_drew, World.frozen?_drew]) <;> first | (with_reducible assumption) | rfl)))
    have all_z : w.heap.size < w2.heap.size := by omega
    clear c_x0 c_x1 c_x2 z_x
    obtain ⟨c_x0, c_x1, c_x2⟩ := all_c
    try clear all_c
    have z_x := all_z
    try clear all_z
    have hB2 : Below w.heap.size w w2 := by (repeat (first | (with_reducible exact Below.refl _ _) | (with_reducible assumption) | (with_reducible exact Hid.out (by with_reducible assumption)) | (with_reducible refine Below.alloc ?_ ?_ _) | (with_reducible refine Below.setCell ?_ ?_ _) | (with_reducible refine below_drewN ?_ _) | (with_reducible refine Below.drew ?_) | (with_reducible refine below_via (by with_reducible assumption) ?_ ?_) | (first | (with_reducible assumption) | omega | (simp only [World.size_alloc, World.size_setCell, World.size_drew, World.heap_drewN] <;> omega) | (simp <;> omega))))
    go_wp2_with fail
    refine (HA.out _ hB2).mono ?_
    rintro e w3 ⟨rfl, hb3⟩
    have hz_w3 := hb3.size
    try simp only [World.size_alloc, World.size_setCell] at hz_w3
    have all_c : w3.cell? ⟨w.heap.size, 0, none⟩ = some (.int .i64 l) ∧ w3.cell? ⟨w.heap.size, 1, none⟩ = some (.slice ma n1 mc) ∧ w3.cell? ⟨w.heap.size, 2, none⟩ = some (.slice ca n2 cc) := by refine ⟨?_, ?_, ?_⟩ <;> (refine (hb3.cell ?_).trans ?_ <;> first | (first | (with_reducible assumption) | omega | (simp only [World.size_alloc, World.size_setCell, World.size_drew, World.heap_drewN] <;> omega) | (simp <;> omega)) | (first | (with_reducible assumption) | ((try simp (disch := first | omega | (simp only [World.size_alloc, World.size_setCell, World.size_drew, World.heap_drewN] <;> omega) | fail) only [World.cell?_alloc_past, World.cell?_alloc_at, World.frozen?_alloc_past, World.frozen?_alloc_at, World.frozen?_setCell, World.cell?_drew, World.frozen?_drew]) <;> first | (with_reducible assumption) | rfl)))
    have all_z : w.heap.size < w3.heap.size := by omega
    clear c_x0 c_x1 c_x2 z_x
    obtain ⟨c_x0, c_x1, c_x2⟩ := all_c
    try clear all_c
    have z_x := all_z
    try clear all_z
    have hB3 : Below w.heap.size w w3 := by (repeat (first | (with_reducible exact Below.refl _ _) | (with_reducible assumption) | (with_reducible exact Hid.out (by with_reducible assumption)) | (with_reducible refine Below.alloc ?_ ?_ _) | (with_reducible refine Below.setCell ?_ ?_ _) | (with_reducible refine below_drewN ?_ _) | (with_reducible refine Below.drew ?_) | (with_reducible refine below_via (by with_reducible assumption) ?_ ?_) | (first | (with_reducible assumption) | omega | (simp only [World.size_alloc, World.size_setCell, World.size_drew, World.heap_drewN] <;> omega) | (simp <;> omega))))
    go_wp2_with fail
    refine (HB.out _ hB3).mono ?_
    rintro e w4 ⟨rfl, hb4⟩
    have hz_w4 := hb4.size
    try simp only [World.size_alloc, World.size_setCell] at hz_w4
    have all_c : w4.cell? ⟨w.heap.size, 0, none⟩ = some (.int .i64 l) ∧ w4.cell? ⟨w.heap.size, 1, none⟩ = some (.slice ma n1 mc) ∧ w4.cell? ⟨w.heap.size, 2, none⟩ = some (.slice ca n2 cc) := by refine ⟨?_, ?_, ?_⟩ <;> (refine (hb4.cell ?_).trans ?_ <;> first | (first | (with_reducible assumption) | omega | (simp only [World.size_alloc, World.size_setCell, World.size_drew, World.heap_drewN] <;> omega) | (simp <;> omega)) | (first | (with_reducible assumption) | ((try simp (disch := first | omega | (simp only [World.size_alloc, World.size_setCell, World.size_drew, World.heap_drewN] <;> omega) | fail) only [World.cell?_alloc_past, World.cell?_alloc_at, World.frozen?_alloc_past, World.frozen?_alloc_at, World.frozen?_setCell, World.cell?_drew, World.frozen?_drew]) <;> first | (with_reducible assumption) | rfl)))
    have all_z : w.heap.size < w4.heap.size := by omega
    clear c_x0 c_x1 c_x2 z_x
    obtain ⟨c_x0, c_x1, c_x2⟩ := all_c
    try clear all_c
    have z_x := all_z
    try clear all_z
    have hB4 : Below w.heap.size w w4 := by (repeat (first | (with_reducible exact Below.refl _ _) | (with_reducible assumption) | (with_reducible exact Hid.out (by with_reducible assumption)) | (with_reducible refine Below.alloc ?_ ?_ _) | (with_reducible refine Below.setCell ?_ ?_ _) | (with_reducible refine below_drewN ?_ _) | (with_reducible refine Below.drew ?_) | (with_reducible refine below_via (by with_reducible assumption) ?_ ?_) | (first | (with_reducible assumption) | omega | (simp only [World.size_alloc, World.size_setCell, World.size_drew, World.heap_drewN] <;> omega) | (simp <;> omega))))
    go_wp2
    go_ret
    exact ⟨rfl, hB4⟩

set_option maxRecDepth 100000 in
set_option maxHeartbeats 1000000 in
theorem Order_yes (l : Int) (ma ca : Option Addr) (mc cc n1 n2 : Nat) (a b : Int) (hab : a ≤ b) (m n p q : Int) (h1 : m ≤ p) (h2 : n ≤ q) (w : World)
    (AL : Hid (∀ W, Calls Try.prog 17 #[] W (AnsB W (.bool true))))
    (GR : Hid (∀ W, Calls Try.prog 7 #[ixV l ma n1 mc ca n2 cc] W (AnsB W (.bool false))))
    (HA : Hid (∀ W, Below w.heap.size w W → Calls Try.prog 9 #[ixV l ma n1 mc ca n2 cc, .int .i64 a] W (AnsB W (.tuple #[.int .i64 m, .int .i64 n, .int .i64 0]))))
    (HB : Hid (∀ W, Below w.heap.size w W → Calls Try.prog 9 #[ixV l ma n1 mc ca n2 cc, .int .i64 b] W (AnsB W (.tuple #[.int .i64 p, .int .i64 q, .int .i64 0]))))
    (GA : Hid (∀ W, Below w.heap.size w W → Calls Try.prog 13 #[ixV l ma n1 mc ca n2 cc, .int .i64 m] W (AnsB W (.tuple #[.int .i64 n, .int .i64 0]))))
    (GB : Hid (∀ W, Below w.heap.size w W → Calls Try.prog 13 #[ixV l ma n1 mc ca n2 cc, .int .i64 p] W (AnsB W (.tuple #[.int .i64 q, .int .i64 0])))) :
    Calls Try.prog 5 #[ixV l ma n1 mc ca n2 cc, .int .i64 a, .int .i64 b] w (AnsB w (.bool true)) := by
  have g1 : (n == n) = true := by simp
  have g2 : (q == q) = true := by simp
  go_enter Try.func5, Try.ntmps5
  go_wp2_with fail
  refine (AL.out _).mono ?_
  rintro e w1 ⟨rfl, hb1⟩
  have hz_w1 := hb1.size
  try simp only [World.size_alloc, World.size_setCell] at hz_w1
  have all_c : w1.cell? ⟨w.heap.size, 0, none⟩ = some (.int .i64 l) ∧ w1.cell? ⟨w.heap.size, 1, none⟩ = some (.slice ma n1 mc) ∧ w1.cell? ⟨w.heap.size, 2, none⟩ = some (.slice ca n2 cc) := by refine ⟨?_, ?_, ?_⟩ <;> (refine (hb1.cell ?_).trans ?_ <;> first | (first | (with_reducible assumption) | omega | (simp only [World.size_alloc, World.size_setCell, World.size_drew, World.heap_drewN] <;> omega) | (simp <;> omega)) | (first | (with_reducible assumption) | ((try simp (disch := first | omega | (simp only [World.size_alloc, World.size_setCell, World.size_drew, World.heap_drewN] <;> omega) | fail) only [World.cell?_alloc_past, World.cell?_alloc_at, World.frozen?_alloc_past, World.frozen?_alloc_at, World.frozen?_setCell, World.cell?_drew, World.frozen?_drew]) <;> first | (with_reducible assumption) | rfl)))
  have all_z : w.heap.size < w1.heap.size := by omega
  obtain ⟨c_x0, c_x1, c_x2⟩ := all_c
  try clear all_c
  have z_x := all_z
  try clear all_z
  have hB1 : Below w.heap.size w w1 := by (repeat (first | (with_reducible exact Below.refl _ _) | (with_reducible assumption) | (with_reducible exact Hid.out (by with_reducible assumption)) | (with_reducible refine Below.alloc ?_ ?_ _) | (with_reducible refine Below.setCell ?_ ?_ _) | (with_reducible refine below_drewN ?_ _) | (with_reducible refine Below.drew ?_) | (with_reducible refine below_via (by with_reducible assumption) ?_ ?_) | (first | (with_reducible assumption) | omega | (simp only [World.size_alloc, World.size_setCell, World.size_drew, World.heap_drewN] <;> omega) | (simp <;> omega))))
  go_wp2_with fail
  refine (GR.out _).mono ?_
  rintro e w2 ⟨rfl, hb2⟩
  have hz_w2 := hb2.size
  try simp only [World.size_alloc, World.size_setCell] at hz_w2
  have all_c : w2.cell? ⟨w.heap.size, 0, none⟩ = some (.int .i64 l) ∧ w2.cell? ⟨w.heap.size, 1, none⟩ = some (.slice ma n1 mc) ∧ w2.cell? ⟨w.heap.size, 2, none⟩ = some (.slice ca n2 cc) := by refine ⟨?_, ?_, ?_⟩ <;> (refine (hb2.cell ?_).trans ?_ <;> first | (first | (with_reducible assumption) | omega | (simp only [World.size_alloc, World.size_setCell, World.size_drew, World.heap_drewN] <;> omega) | (simp <;> omega)) | (first | (with_reducible assumption) | ((try simp (disch := first | omega | (simp only [World.size_alloc, World.size_setCell, World.size_drew, World.heap_drewN] <;> omega) | fail) only [World.cell?_alloc_past, World.cell?_alloc_at, World.frozen?_alloc_past, World.frozen?_alloc_at, World.frozen?_setCell, World.cell?_drew, World.frozen?_drew]) <;> first | (with_reducible assumption) | rfl)))
  have all_z : w.heap.size < w2.heap.size := by omega
  clear c_x0 c_x1 c_x2 z_x
  obtain ⟨c_x0, c_x1, c_x2⟩ := all_c
  try clear all_c
  have z_x := all_z
  try clear all_z
  have hB2 : Below w.heap.size w w2 := by (repeat (first | (with_reducible exact Below.refl _ _) | (with_reducible assumption) | (with_reducible exact Hid.out (by with_reducible assumption)) | (with_reducible refine Below.alloc ?_ ?_ _) | (with_reducible refine Below.setCell ?_ ?_ _) | (with_reducible refine below_drewN ?_ _) | (with_reducible refine Below.drew ?_) | (with_reducible refine below_via (by with_reducible assumption) ?_ ?_) | (first | (with_reducible assumption) | omega | (simp only [World.size_alloc, World.size_setCell, World.size_drew, World.heap_drewN] <;> omega) | (simp <;> omega))))
  go_wp2_with fail
  refine (HA.out _ hB2).mono ?_
  rintro e w3 ⟨rfl, hb3⟩
  have hz_w3 := hb3.size
  try simp only [World.size_alloc, World.size_setCell] at hz_w3
  have all_c : w3.cell? ⟨w.heap.size, 0, none⟩ = some (.int .i64 l) ∧ w3.cell? ⟨w.heap.size, 1, none⟩ = some (.slice ma n1 mc) ∧ w3.cell? ⟨w.heap.size, 2, none⟩ = some (.slice ca n2 cc) := by refine ⟨?_, ?_, ?_⟩ <;> (refine (hb3.cell ?_).trans ?_ <;> first | (first | (with_reducible assumption) | omega | (simp only [World.size_alloc, World.size_setCell, World.size_drew, World.heap_drewN] <;> omega) | (simp <;> omega)) | (first | (with_reducible assumption) | ((try simp (disch := first | omega | (simp only [World.size_alloc, World.size_setCell, World.size_drew, World.heap_drewN] <;> omega) | fail) only [World.cell?_alloc_past, World.cell?_alloc_at, World.frozen?_alloc_past, World.frozen?_alloc_at, World.frozen?_setCell, World.cell?_drew, World.frozen?_drew]) <;> first | (with_reducible assumption) | rfl)))
  have all_z : w.heap.size < w3.heap.size := by omega
  clear c_x0 c_x1 c_x2 z_x
  obtain ⟨c_x0, c_x1, c_x2⟩ := all_c
  try clear all_c
  have z_x := all_z
  try clear all_z
  have hB3 : Below w.heap.size w w3 := by (repeat (first | (with_reducible exact Below.refl _ _) | (with_reducible assumption) | (with_reducible exact Hid.out (by with_reducible assumption)) | (with_reducible refine Below.alloc ?_ ?_ _) | (with_reducible refine Below.setCell ?_ ?_ _) | (with_reducible refine below_drewN ?_ _) | (with_reducible refine Below.drew ?_) | (with_reducible refine below_via (by with_reducible assumption) ?_ ?_) | (first | (with_reducible assumption) | omega | (simp only [World.size_alloc, World.size_setCell, World.size_drew, World.heap_drewN] <;> omega) | (simp <;> omega))))
  go_wp2_with fail
  refine (HB.out _ hB3).mono ?_
  rintro e w4 ⟨rfl, hb4⟩
  have hz_w4 := hb4.size
  try simp only [World.size_alloc, World.size_setCell] at hz_w4
  have all_c : w4.cell? ⟨w.heap.size, 0, none⟩ = some (.int .i64 l) ∧ w4.cell? ⟨w.heap.size, 1, none⟩ = some (.slice ma n1 mc) ∧ w4.cell? ⟨w.heap.size, 2, none⟩ = some (.slice ca n2 cc) := by refine ⟨?_, ?_, ?_⟩ <;> (refine (hb4.cell ?_).trans ?_ <;> first | (first | (with_reducible assumption) | omega | (simp only [World.size_alloc, World.size_setCell, World.size_drew, World.heap_drewN] <;> omega) | (simp <;> omega)) | (first | (with_reducible assumption) | ((try simp (disch := first | omega | (simp only [World.size_alloc, World.size_setCell, World.size_drew, World.heap_drewN] <;> omega) | fail) only [World.cell?_alloc_past, World.cell?_alloc_at, World.frozen?_alloc_past, World.frozen?_alloc_at, World.frozen?_setCell, World.cell?_drew, World.frozen?_drew]) <;> first | (with_reducible assumption) | rfl)))
  have all_z : w.heap.size < w4.heap.size := by omega
  clear c_x0 c_x1 c_x2 z_x
  obtain ⟨c_x0, c_x1, c_x2⟩ := all_c
  try clear all_c
  have z_x := all_z
  try clear all_z
  have hB4 : Below w.heap.size w w4 := by (repeat (first | (with_reducible exact Below.refl _ _) | (with_reducible assumption) | (with_reducible exact Hid.out (by with_reducible assumption)) | (with_reducible refine Below.alloc ?_ ?_ _) | (with_reducible refine Below.setCell ?_ ?_ _) | (with_reducible refine below_drewN ?_ _) | (with_reducible refine Below.drew ?_) | (with_reducible refine below_via (by with_reducible assumption) ?_ ?_) | (first | (with_reducible assumption) | omega | (simp only [World.size_alloc, World.size_setCell, World.size_drew, World.heap_drewN] <;> omega) | (simp <;> omega))))
  go_wp2_with fail
  refine (GA.out _ hB4).mono ?_
  rintro e w5 ⟨rfl, hb5⟩
  have hz_w5 := hb5.size
  try simp only [World.size_alloc, World.size_setCell] at hz_w5
  have all_c : w5.cell? ⟨w.heap.size, 0, none⟩ = some (.int .i64 l) ∧ w5.cell? ⟨w.heap.size, 1, none⟩ = some (.slice ma n1 mc) ∧ w5.cell? ⟨w.heap.size, 2, none⟩ = some (.slice ca n2 cc) := by refine ⟨?_, ?_, ?_⟩ <;> (refine (hb5.cell ?_).trans ?_ <;> first | (first | (with_reducible assumption) | omega | (simp only [World.size_alloc, World.size_setCell, World.size_drew, World.heap_drewN] <;> omega) | (simp <;> omega)) | (first | (with_reducible assumption) | ((try simp (disch := first | omega | (simp only [World.size_alloc, World.size_setCell, World.size_drew, World.heap_drewN] <;> omega) | fail) only [World.cell?_alloc_past, World.cell?_alloc_at, World.frozen?_alloc_past, World.frozen?_alloc_at, World.frozen?_setCell, World.cell?_drew, World.frozen?_drew]) <;> first | (with_reducible assumption) | rfl)))
  have all_z : w.heap.size < w5.heap.size := by omega
  clear c_x0 c_x1 c_x2 z_x
  obtain ⟨c_x0, c_x1, c_x2⟩ := all_c
  try clear all_c
  have z_x := all_z
  try clear all_z
  have hB5 : Below w.heap.size w w5 := by (repeat (first | (with_reducible exact Below.refl _ _) | (with_reducible assumption) | (with_reducible exact Hid.out (by with_reducible assumption)) | (with_reducible refine Below.alloc ?_ ?_ _) | (with_reducible refine Below.setCell ?_ ?_ _) | (with_reducible refine below_drewN ?_ _) | (with_reducible refine Below.drew ?_) | (with_reducible refine below_via (by with_reducible assumption) ?_ ?_) | (first | (with_reducible assumption) | omega | (simp only [World.size_alloc, World.size_setCell, World.size_drew, World.heap_drewN] <;> omega) | (simp <;> omega))))
  go_wp2_with fail
  refine (GB.out _ hB5).mono ?_
  rintro e w6 ⟨rfl, hb6⟩
  have hz_w6 := hb6.size
  try simp only [World.size_alloc, World.size_setCell] at hz_w6
  have all_c : w6.cell? ⟨w.heap.size, 0, none⟩ = some (.int .i64 l) ∧ w6.cell? ⟨w.heap.size, 1, none⟩ = some (.slice ma n1 mc) ∧ w6.cell? ⟨w.heap.size, 2, none⟩ = some (.slice ca n2 cc) := by refine ⟨?_, ?_, ?_⟩ <;> (refine (hb6.cell ?_).trans ?_ <;> first | (first | (with_reducible assumption) | omega | (simp only [World.size_alloc, World.size_setCell, World.size_drew, World.heap_drewN] <;> omega) | (simp <;> omega)) | (first | (with_reducible assumption) | ((try simp (disch := first | omega | (simp only [World.size_alloc, World.size_setCell, World.size_drew, World.heap_drewN] <;> omega) | fail) only [World.cell?_alloc_past, World.cell?_alloc_at, World.frozen?_alloc_past, World.frozen?_alloc_at, World.frozen?_setCell, World.cell?_drew, World.frozen?_drew]) <;> first | (with_reducible assumption) | rfl)))
  have all_z : w.heap.size < w6.heap.size := by omega
  clear c_x0 c_x1 c_x2 z_x
  obtain ⟨c_x0, c_x1, c_x2⟩ := all_c
  try clear all_c
  have z_x := all_z
  try clear all_z
  have hB6 : Below w.heap.size w w6 := by (repeat (first | (with_reducible exact Below.refl _ _) | (with_reducible assumption) | (with_reducible exact Hid.out (by with_reducible assumption)) | (with_reducible refine Below.alloc ?_ ?_ _) | (with_reducible refine Below.setCell ?_ ?_ _) | (with_reducible refine below_drewN ?_ _) | (with_reducible refine Below.drew ?_) | (with_reducible refine below_via (by with_reducible assumption) ?_ ?_) | (first | (with_reducible assumption) | omega | (simp only [World.size_alloc, World.size_setCell, World.size_drew, World.heap_drewN] <;> omega) | (simp <;> omega))))
  go_wp2
  go_ret
  exact ⟨rfl, hB6⟩

theorem DownOrder_walk (w : World) (l : Int) (ma ca : Option Addr) (mc cc : Nat) (ms cs : List Int) (hm : IsRow .i64 w ma ms) (hc : IsRow .i64 w ca cs) (hmn : ma = none → mc = 0) (hcn : ca = none → cc = 0) (hlm : ms.length ≤ maxLen) (hlc : cs.length ≤ maxLen)
    (a b : Int) :
    Calls Try.prog 5 #[ixV l ma ms.length mc ca cs.length cc, .int .i64 a, .int .i64 b] w fun e w' => e = .returned (.bool true) ∧ Below w.heap.size w w' := by
  have AL := Lib.hid down_alive
  by_cases h : ms.length ≤ 600 ∧ cs.length ≤ 600
  · have GR := Lib.hid (fun W => Great18_no l ma ca ms.length mc cs.length cc h.1 h.2 W)
    by_cases hab : a ≤ b
    · have HM := fun k => Lib.hid (fun W (hb : Below w.heap.size w W) => Home_ix l k ma ca mc cc ms cs W (hm.below hb) (hc.below hb))
      have AH := fun k => Lib.hid (fun W (hb : Below w.heap.size w W) => Ahead_ix l k ma ca mc cc ms cs W (hm.below hb) (hc.below hb))
      have HA := HM a
      have HB := HM b
      by_cases hmay : ixMay l ms cs = true
      · rcases homT_two hab hmay with ⟨e1, e2 | e2⟩ | ⟨j, k, n, q, e1, e2, e3, e4, e5, e6⟩
        · rw [e1] at HB
          rw [e2] at HA
          exact Order_no l ma ca mc cc _ _ a b hab _ _ _ _ _ _ (.inr (.inl ⟨rfl, rfl⟩)) w AL GR HA HB
        · rw [e1] at HB
          rw [e2] at HA
          exact Order_no l ma ca mc cc _ _ a b hab _ _ _ _ _ _ (.inr (.inr ⟨rfl, rfl⟩)) w AL GR HA HB
        · rw [e1] at HA
          rw [e2] at HB
          have GA := AH j
          have GB := AH k
          rw [e5] at GA
          rw [e6] at GB
          exact Order_yes l ma ca mc cc _ _ a b hab _ _ _ _ e3 e4 w AL GR HA HB GA GB
      · have e1 : ∀ k, homT l ms cs k = (0, 0, 8) := fun k => if_neg hmay
        rw [e1] at HA HB
        exact Order_no l ma ca mc cc _ _ a b hab _ _ _ _ _ _ (.inl ⟨rfl, rfl⟩) w AL GR HA HB
    · exact Order_over l ma ca mc cc _ _ a b (by omega) w AL GR
  · exact Order_great l ma ca mc cc _ _ a b w AL (Lib.hid fun W => Great18_yes l ma ca ms.length mc cs.length cc (by omega) W)
end Go.Proofs.Ytfmoghjddfjfmaa
