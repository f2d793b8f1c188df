/-
  IndexFirst: a key stands in the segment of the first leaf whose greatest key is not below it, if it is there.
  The table of math/bits holds what its text lays.
-/
import Derived.Test.YtelckhfmchnpnaaDoorFind
import Derived.Test.YtelckhfmchnpnaaDoorLeafLaw
import Derived.Test.YtelckhfmchnpnaaDoorAlvCh
import Derived.Test.YtelckhfmchnpnaaDoorHeapUF
import Derived.Test.YtelckhfmchnpnaaDoorSlTw
namespace Go.Proofs.YtelckhfmchnpnaaDoor
open Go.RowKit
set_option linter.unusedVariables false
set_option linter.unusedSimpArgs false

set_option maxRecDepth 100000 in
set_option maxHeartbeats 1000000 in
theorem First_great (seg : Int) (wa ka va ca : Option Addr) (wc kc vc cc lw lk lv lc : Nat) (laid key : Int) (w : World)
    (GR : Hid (∀ W, Calls Tryd.prog 5 #[.agg #[.int .i64 seg, .slice wa lw wc, .slice ka lk kc, .slice va lv vc, .slice ca lc cc, .int .u64 laid], .int .i64 600] W (AnsB W (.bool true)))) :
    Calls Tryd.prog 3 #[.agg #[.int .i64 seg, .slice wa lw wc, .slice ka lk kc, .slice va lv vc, .slice ca lc cc, .int .u64 laid], .int .i64 key] w (AnsB w (.bool true)) := by
  have AL := Lib.hid alive_ok
  go_enter Tryd.func3, Tryd.ntmps3
  go_wp2_with fail
  refine (AL.out _).mono ?_
  rintro e w1 ⟨rfl, hb1⟩
  have hz_w1 := hb1.size
  try simp only [World.size_alloc, World.size_setCell] at hz_w1
  have all_c : w1.cell? ⟨w.heap.size, 0, none⟩ = some (.int .i64 seg) ∧ w1.cell? ⟨w.heap.size, 1, none⟩ = some (.slice wa lw wc) ∧ w1.cell? ⟨w.heap.size, 2, none⟩ = some (.slice ka lk kc) ∧ w1.cell? ⟨w.heap.size, 3, none⟩ = some (.slice va lv vc) ∧ w1.cell? ⟨w.heap.size, 4, none⟩ = some (.slice ca lc cc) ∧ w1.cell? ⟨w.heap.size, 5, none⟩ = some (.int .u64 laid) := by refine ⟨?_, ?_, ?_, ?_, ?_, ?_⟩ <;> (refine (hb1.cell ?_).trans ?_ <;> first | (first | (with_reducible assumption) | omega | (simp only [World.size_alloc, World.size_setCell, World.size_drew, World.heap_drewN] <;> omega) | (simp <;> omega)) | (first | (with_reducible assumption) | ((try simp (disch := first | omega | (simp only [World.size_alloc, World.size_setCell, World.size_drew, World.heap_drewN] <;> omega) | fail) only [World.cell?_alloc_past, World.cell?_alloc_at, World.frozen?_alloc_past, World.frozen?_alloc_at, World.frozen?_setCell, World.cell?_drew, World.frozen?_drew]) <;> first | (with_reducible assumption) | rfl)))
  have all_z : w.heap.size < w1.heap.size := by omega
  obtain ⟨c_s0, c_s1, c_s2, c_s3, c_s4, c_s5⟩ := all_c
  try clear all_c
  have z_s := all_z
  try clear all_z
  have hB1 : Below w.heap.size w w1 := by (repeat (first | (with_reducible exact Below.refl _ _) | (with_reducible assumption) | (with_reducible exact Hid.out (by with_reducible assumption)) | (with_reducible refine Below.alloc ?_ ?_ _) | (with_reducible refine Below.setCell ?_ ?_ _) | (with_reducible refine below_drewN ?_ _) | (with_reducible refine Below.drew ?_) | (with_reducible refine below_via (by with_reducible assumption) ?_ ?_) | (first | (with_reducible assumption) | omega | (simp only [World.size_alloc, World.size_setCell, World.size_drew, World.heap_drewN] <;> omega) | (simp <;> omega))))
  go_wp2_with fail
  refine (GR.out _).mono ?_
  rintro e w2 ⟨rfl, hb2⟩
  have hz_w2 := hb2.size
  try simp only [World.size_alloc, World.size_setCell] at hz_w2
  have all_c : w2.cell? ⟨w.heap.size, 0, none⟩ = some (.int .i64 seg) ∧ w2.cell? ⟨w.heap.size, 1, none⟩ = some (.slice wa lw wc) ∧ w2.cell? ⟨w.heap.size, 2, none⟩ = some (.slice ka lk kc) ∧ w2.cell? ⟨w.heap.size, 3, none⟩ = some (.slice va lv vc) ∧ w2.cell? ⟨w.heap.size, 4, none⟩ = some (.slice ca lc cc) ∧ w2.cell? ⟨w.heap.size, 5, none⟩ = some (.int .u64 laid) := by refine ⟨?_, ?_, ?_, ?_, ?_, ?_⟩ <;> (refine (hb2.cell ?_).trans ?_ <;> first | (first | (with_reducible assumption) | omega | (simp only [World.size_alloc, World.size_setCell, World.size_drew, World.heap_drewN] <;> omega) | (simp <;> omega)) | (first | (with_reducible assumption) | ((try simp (disch := first | omega | (simp only [World.size_alloc, World.size_setCell, World.size_drew, World.heap_drewN] <;> omega) | fail) only [World.cell?_alloc_past, World.cell?_alloc_at, World.frozen?_alloc_past, World.frozen?_alloc_at, World.frozen?_setCell, World.cell?_drew, World.frozen?_drew]) <;> first | (with_reducible assumption) | rfl)))
  have all_z : w.heap.size < w2.heap.size := by omega
  clear c_s0 c_s1 c_s2 c_s3 c_s4 c_s5 z_s
  obtain ⟨c_s0, c_s1, c_s2, c_s3, c_s4, c_s5⟩ := all_c
  try clear all_c
  have z_s := all_z
  try clear all_z
  have hB2 : Below w.heap.size w w2 := by (repeat (first | (with_reducible exact Below.refl _ _) | (with_reducible assumption) | (with_reducible exact Hid.out (by with_reducible assumption)) | (with_reducible refine Below.alloc ?_ ?_ _) | (with_reducible refine Below.setCell ?_ ?_ _) | (with_reducible refine below_drewN ?_ _) | (with_reducible refine Below.drew ?_) | (with_reducible refine below_via (by with_reducible assumption) ?_ ?_) | (first | (with_reducible assumption) | omega | (simp only [World.size_alloc, World.size_setCell, World.size_drew, World.heap_drewN] <;> omega) | (simp <;> omega))))
  go_wp2
  go_ret
  exact ⟨rfl, hB2⟩

set_option maxRecDepth 100000 in
set_option maxHeartbeats 1000000 in
theorem First_no (seg : Int) (wa ka va ca : Option Addr) (wc kc vc cc lw lk lv lc : Nat) (laid key L x y t : Int) (bm bc : List Int) (hxy : x ≠ 0 ∨ (x = 0 ∧ y ≠ 0)) (w : World)
    (GR : Hid (∀ W, Calls Tryd.prog 5 #[.agg #[.int .i64 seg, .slice wa lw wc, .slice ka lk kc, .slice va lv vc, .slice ca lc cc, .int .u64 laid], .int .i64 600] W (AnsB W (.bool false))))
    (BI : Hid (∀ W, Below w.heap.size w W → Calls Tryd.prog 6 #[.agg #[.int .i64 seg, .slice wa lw wc, .slice ka lk kc, .slice va lv vc, .slice ca lc cc, .int .u64 laid]] W (FreshIx2 W L bm bc (.int .i64 x))))
    (FD : Hid (∀ W, Below w.heap.size w W → Calls Tryd.prog 7 #[.agg #[.int .i64 seg, .slice wa lw wc, .slice ka lk kc, .slice va lv vc, .slice ca lc cc, .int .u64 laid], .int .i64 key] W (AnsB W (.tuple #[.int .i64 t, .int .i64 y])))) :
    Calls Tryd.prog 3 #[.agg #[.int .i64 seg, .slice wa lw wc, .slice ka lk kc, .slice va lv vc, .slice ca lc cc, .int .u64 laid], .int .i64 key] w (AnsB w (.bool true)) := by
  have AL := Lib.hid alive_ok
  rcases hxy with hx | ⟨rfl, hy⟩
  · have g1 : (x != 0) = true := by simpa using hx
    clear hx
    go_enter Tryd.func3, Tryd.ntmps3
    go_wp2_with fail
    refine (AL.out _).mono ?_
    rintro e w1 ⟨rfl, hb1⟩
    have hz_w1 := hb1.size
    try simp only [World.size_alloc, World.size_setCell] at hz_w1
    have all_c : w1.cell? ⟨w.heap.size, 0, none⟩ = some (.int .i64 seg) ∧ w1.cell? ⟨w.heap.size, 1, none⟩ = some (.slice wa lw wc) ∧ w1.cell? ⟨w.heap.size, 2, none⟩ = some (.slice ka lk kc) ∧ w1.cell? ⟨w.heap.size, 3, none⟩ = some (.slice va lv vc) ∧ w1.cell? ⟨w.heap.size, 4, none⟩ = some (.slice ca lc cc) ∧ w1.cell? ⟨w.heap.size, 5, none⟩ = some (.int .u64 laid) := by refine ⟨?_, ?_, ?_, ?_, ?_, ?_⟩ <;> (refine (hb1.cell ?_).trans ?_ <;> first | (first | (with_reducible assumption) | omega | (simp only [World.size_alloc, World.size_setCell, World.size_drew, World.heap_drewN] <;> omega) | (simp <;> omega)) | (first | (with_reducible assumption) | ((try simp (disch := first | omega | (simp only [World.size_alloc, World.size_setCell, World.size_drew, World.heap_drewN] <;> omega) | fail) only [World.cell?_alloc_past, World.cell?_alloc_at, World.frozen?_alloc_past, World.frozen?_alloc_at, World.frozen?_setCell, World.cell?_drew, World.frozen?_drew]) <;> first | (with_reducible assumption) | rfl)))
    have all_z : w.heap.size < w1.heap.size := by omega
    obtain ⟨c_s0, c_s1, c_s2, c_s3, c_s4, c_s5⟩ := all_c
    try clear all_c
    have z_s := all_z
    try clear all_z
    have hB1 : Below w.heap.size w w1 := by (repeat (first | (with_reducible exact Below.refl _ _) | (with_reducible assumption) | (with_reducible exact Hid.out (by with_reducible assumption)) | (with_reducible refine Below.alloc ?_ ?_ _) | (with_reducible refine Below.setCell ?_ ?_ _) | (with_reducible refine below_drewN ?_ _) | (with_reducible refine Below.drew ?_) | (with_reducible refine below_via (by with_reducible assumption) ?_ ?_) | (first | (with_reducible assumption) | omega | (simp only [World.size_alloc, World.size_setCell, World.size_drew, World.heap_drewN] <;> omega) | (simp <;> omega))))
    go_wp2_with fail
    refine (GR.out _).mono ?_
    rintro e w2 ⟨rfl, hb2⟩
    have hz_w2 := hb2.size
    try simp only [World.size_alloc, World.size_setCell] at hz_w2
    have all_c : w2.cell? ⟨w.heap.size, 0, none⟩ = some (.int .i64 seg) ∧ w2.cell? ⟨w.heap.size, 1, none⟩ = some (.slice wa lw wc) ∧ w2.cell? ⟨w.heap.size, 2, none⟩ = some (.slice ka lk kc) ∧ w2.cell? ⟨w.heap.size, 3, none⟩ = some (.slice va lv vc) ∧ w2.cell? ⟨w.heap.size, 4, none⟩ = some (.slice ca lc cc) ∧ w2.cell? ⟨w.heap.size, 5, none⟩ = some (.int .u64 laid) := by refine ⟨?_, ?_, ?_, ?_, ?_, ?_⟩ <;> (refine (hb2.cell ?_).trans ?_ <;> first | (first | (with_reducible assumption) | omega | (simp only [World.size_alloc, World.size_setCell, World.size_drew, World.heap_drewN] <;> omega) | (simp <;> omega)) | (first | (with_reducible assumption) | ((try simp (disch := first | omega | (simp only [World.size_alloc, World.size_setCell, World.size_drew, World.heap_drewN] <;> omega) | fail) only [World.cell?_alloc_past, World.cell?_alloc_at, World.frozen?_alloc_past, World.frozen?_alloc_at, World.frozen?_setCell, World.cell?_drew, World.frozen?_drew]) <;> first | (with_reducible assumption) | rfl)))
    have all_z : w.heap.size < w2.heap.size := by omega
    clear c_s0 c_s1 c_s2 c_s3 c_s4 c_s5 z_s
    obtain ⟨c_s0, c_s1, c_s2, c_s3, c_s4, c_s5⟩ := all_c
    try clear all_c
    have z_s := all_z
    try clear all_z
    have hB2 : Below w.heap.size w w2 := by (repeat (first | (with_reducible exact Below.refl _ _) | (with_reducible assumption) | (with_reducible exact Hid.out (by with_reducible assumption)) | (with_reducible refine Below.alloc ?_ ?_ _) | (with_reducible refine Below.setCell ?_ ?_ _) | (with_reducible refine below_drewN ?_ _) | (with_reducible refine Below.drew ?_) | (with_reducible refine below_via (by with_reducible assumption) ?_ ?_) | (first | (with_reducible assumption) | omega | (simp only [World.size_alloc, World.size_setCell, World.size_drew, World.heap_drewN] <;> omega) | (simp <;> omega))))
    go_wp2_with fail
    refine (BI.out _ hB2).mono ?_
    rintro e w3 ⟨v, u, rfl, o1, o2, hb3⟩
    have hz_w3 := hb3.size
    try simp only [World.size_alloc, World.size_setCell] at hz_w3
    have all_c : w3.cell? ⟨w.heap.size, 0, none⟩ = some (.int .i64 seg) ∧ w3.cell? ⟨w.heap.size, 1, none⟩ = some (.slice wa lw wc) ∧ w3.cell? ⟨w.heap.size, 2, none⟩ = some (.slice ka lk kc) ∧ w3.cell? ⟨w.heap.size, 3, none⟩ = some (.slice va lv vc) ∧ w3.cell? ⟨w.heap.size, 4, none⟩ = some (.slice ca lc cc) ∧ w3.cell? ⟨w.heap.size, 5, none⟩ = some (.int .u64 laid) := by refine ⟨?_, ?_, ?_, ?_, ?_, ?_⟩ <;> (refine (hb3.cell ?_).trans ?_ <;> first | (first | (with_reducible assumption) | omega | (simp only [World.size_alloc, World.size_setCell, World.size_drew, World.heap_drewN] <;> omega) | (simp <;> omega)) | (first | (with_reducible assumption) | ((try simp (disch := first | omega | (simp only [World.size_alloc, World.size_setCell, World.size_drew, World.heap_drewN] <;> omega) | fail) only [World.cell?_alloc_past, World.cell?_alloc_at, World.frozen?_alloc_past, World.frozen?_alloc_at, World.frozen?_setCell, World.cell?_drew, World.frozen?_drew]) <;> first | (with_reducible assumption) | rfl)))
    have all_z : w.heap.size < w3.heap.size := by omega
    clear c_s0 c_s1 c_s2 c_s3 c_s4 c_s5 z_s
    obtain ⟨c_s0, c_s1, c_s2, c_s3, c_s4, c_s5⟩ := all_c
    try clear all_c
    have z_s := all_z
    try clear all_z
    have hB3 : Below w.heap.size w w3 := by (repeat (first | (with_reducible exact Below.refl _ _) | (with_reducible assumption) | (with_reducible exact Hid.out (by with_reducible assumption)) | (with_reducible refine Below.alloc ?_ ?_ _) | (with_reducible refine Below.setCell ?_ ?_ _) | (with_reducible refine below_drewN ?_ _) | (with_reducible refine Below.drew ?_) | (with_reducible refine below_via (by with_reducible assumption) ?_ ?_) | (first | (with_reducible assumption) | omega | (simp only [World.size_alloc, World.size_setCell, World.size_drew, World.heap_drewN] <;> omega) | (simp <;> omega))))
    obtain ⟨ma, mc, rfl, -⟩ := owns_news o1
    obtain ⟨ca', cc', rfl, -⟩ := owns_news o2
    clear o1 o2 hb1 hb2 hb3
    go_wp2_with fail
    refine (FD.out _ (by (repeat (first | (with_reducible exact Below.refl _ _) | (with_reducible assumption) | (with_reducible exact Hid.out (by with_reducible assumption)) | (with_reducible refine Below.alloc ?_ ?_ _) | (with_reducible refine Below.setCell ?_ ?_ _) | (with_reducible refine below_drewN ?_ _) | (with_reducible refine Below.drew ?_) | (with_reducible refine below_via (by with_reducible assumption) ?_ ?_) | (first | (with_reducible assumption) | omega | (simp only [World.size_alloc, World.size_setCell, World.size_drew, World.heap_drewN] <;> omega) | (simp <;> omega)))))).mono ?_
    rintro e w4 ⟨rfl, hb4⟩
    have hz_w4 := hb4.size
    try simp only [World.size_alloc, World.size_setCell] at hz_w4
    have all_c : w4.cell? ⟨w.heap.size, 0, none⟩ = some (.int .i64 seg) ∧ w4.cell? ⟨w.heap.size, 1, none⟩ = some (.slice wa lw wc) ∧ w4.cell? ⟨w.heap.size, 2, none⟩ = some (.slice ka lk kc) ∧ w4.cell? ⟨w.heap.size, 3, none⟩ = some (.slice va lv vc) ∧ w4.cell? ⟨w.heap.size, 4, none⟩ = some (.slice ca lc cc) ∧ w4.cell? ⟨w.heap.size, 5, none⟩ = some (.int .u64 laid) := by refine ⟨?_, ?_, ?_, ?_, ?_, ?_⟩ <;> (refine (hb4.cell ?_).trans ?_ <;> first | (first | (with_reducible assumption) | omega | (simp only [World.size_alloc, World.size_setCell, World.size_drew, World.heap_drewN] <;> omega) | (simp <;> omega)) | (first | (with_reducible assumption) | ((try simp (disch := first | omega | (simp only [World.size_alloc, World.size_setCell, World.size_drew, World.heap_drewN] <;> omega) | fail) only [World.cell?_alloc_past, World.cell?_alloc_at, World.frozen?_alloc_past, World.frozen?_alloc_at, World.frozen?_setCell, World.cell?_drew, World.frozen?_drew]) <;> first | (with_reducible assumption) | rfl)))
    have all_z : w.heap.size < w4.heap.size := by omega
    clear c_s0 c_s1 c_s2 c_s3 c_s4 c_s5 z_s
    obtain ⟨c_s0, c_s1, c_s2, c_s3, c_s4, c_s5⟩ := all_c
    try clear all_c
    have z_s := all_z
    try clear all_z
    have hB4 : Below w.heap.size w w4 := by (repeat (first | (with_reducible exact Below.refl _ _) | (with_reducible assumption) | (with_reducible exact Hid.out (by with_reducible assumption)) | (with_reducible refine Below.alloc ?_ ?_ _) | (with_reducible refine Below.setCell ?_ ?_ _) | (with_reducible refine below_drewN ?_ _) | (with_reducible refine Below.drew ?_) | (with_reducible refine below_via (by with_reducible assumption) ?_ ?_) | (first | (with_reducible assumption) | omega | (simp only [World.size_alloc, World.size_setCell, World.size_drew, World.heap_drewN] <;> omega) | (simp <;> omega))))
    go_wp2
    go_ret
    exact ⟨rfl, hB4⟩
  · have g1 : (y != 0) = true := by simpa using hy
    clear hy
    go_enter Tryd.func3, Tryd.ntmps3
    go_wp2_with fail
    refine (AL.out _).mono ?_
    rintro e w1 ⟨rfl, hb1⟩
    have hz_w1 := hb1.size
    try simp only [World.size_alloc, World.size_setCell] at hz_w1
    have all_c : w1.cell? ⟨w.heap.size, 0, none⟩ = some (.int .i64 seg) ∧ w1.cell? ⟨w.heap.size, 1, none⟩ = some (.slice wa lw wc) ∧ w1.cell? ⟨w.heap.size, 2, none⟩ = some (.slice ka lk kc) ∧ w1.cell? ⟨w.heap.size, 3, none⟩ = some (.slice va lv vc) ∧ w1.cell? ⟨w.heap.size, 4, none⟩ = some (.slice ca lc cc) ∧ w1.cell? ⟨w.heap.size, 5, none⟩ = some (.int .u64 laid) := by refine ⟨?_, ?_, ?_, ?_, ?_, ?_⟩ <;> (refine (hb1.cell ?_).trans ?_ <;> first | (first | (with_reducible assumption) | omega | (simp only [World.size_alloc, World.size_setCell, World.size_drew, World.heap_drewN] <;> omega) | (simp <;> omega)) | (first | (with_reducible assumption) | ((try simp (disch := first | omega | (simp only [World.size_alloc, World.size_setCell, World.size_drew, World.heap_drewN] <;> omega) | fail) only [World.cell?_alloc_past, World.cell?_alloc_at, World.frozen?_alloc_past, World.frozen?_alloc_at, World.frozen?_setCell, World.cell?_drew, World.frozen?_drew]) <;> first | (with_reducible assumption) | rfl)))
    have all_z : w.heap.size < w1.heap.size := by omega
    obtain ⟨c_s0, c_s1, c_s2, c_s3, c_s4, c_s5⟩ := all_c
    try clear all_c
    have z_s := all_z
    try clear all_z
    have hB1 : Below w.heap.size w w1 := by (repeat (first | (with_reducible exact Below.refl _ _) | (with_reducible assumption) | (with_reducible exact Hid.out (by with_reducible assumption)) | (with_reducible refine Below.alloc ?_ ?_ _) | (with_reducible refine Below.setCell ?_ ?_ _) | (with_reducible refine below_drewN ?_ _) | (with_reducible refine Below.drew ?_) | (with_reducible refine below_via (by with_reducible assumption) ?_ ?_) | (first | (with_reducible assumption) | omega | (simp only [World.size_alloc, World.size_setCell, World.size_drew, World.heap_drewN] <;> omega) | (simp <;> omega))))
    go_wp2_with fail
    refine (GR.out _).mono ?_
    rintro e w2 ⟨rfl, hb2⟩
    have hz_w2 := hb2.size
    try simp only [World.size_alloc, World.size_setCell] at hz_w2
    have all_c : w2.cell? ⟨w.heap.size, 0, none⟩ = some (.int .i64 seg) ∧ w2.cell? ⟨w.heap.size, 1, none⟩ = some (.slice wa lw wc) ∧ w2.cell? ⟨w.heap.size, 2, none⟩ = some (.slice ka lk kc) ∧ w2.cell? ⟨w.heap.size, 3, none⟩ = some (.slice va lv vc) ∧ w2.cell? ⟨w.heap.size, 4, none⟩ = some (.slice ca lc cc) ∧ w2.cell? ⟨w.heap.size, 5, none⟩ = some (.int .u64 laid) := by refine ⟨?_, ?_, ?_, ?_, ?_, ?_⟩ <;> (refine (hb2.cell ?_).trans ?_ <;> first | (first | (with_reducible assumption) | omega | (simp only [World.size_alloc, World.size_setCell, World.size_drew, World.heap_drewN] <;> omega) | (simp <;> omega)) | (first | (with_reducible assumption) | ((try simp (disch := first | omega | (simp only [World.size_alloc, World.size_setCell, World.size_drew, World.heap_drewN] <;> omega) | fail) only [World.cell?_alloc_past, World.cell?_alloc_at, World.frozen?_alloc_past, World.frozen?_alloc_at, World.frozen?_setCell, World.cell?_drew, World.frozen?_drew]) <;> first | (with_reducible assumption) | rfl)))
    have all_z : w.heap.size < w2.heap.size := by omega
    clear c_s0 c_s1 c_s2 c_s3 c_s4 c_s5 z_s
    obtain ⟨c_s0, c_s1, c_s2, c_s3, c_s4, c_s5⟩ := all_c
    try clear all_c
    have z_s := all_z
    try clear all_z
    have hB2 : Below w.heap.size w w2 := by (repeat (first | (with_reducible exact Below.refl _ _) | (with_reducible assumption) | (with_reducible exact Hid.out (by with_reducible assumption)) | (with_reducible refine Below.alloc ?_ ?_ _) | (with_reducible refine Below.setCell ?_ ?_ _) | (with_reducible refine below_drewN ?_ _) | (with_reducible refine Below.drew ?_) | (with_reducible refine below_via (by with_reducible assumption) ?_ ?_) | (first | (with_reducible assumption) | omega | (simp only [World.size_alloc, World.size_setCell, World.size_drew, World.heap_drewN] <;> omega) | (simp <;> omega))))
    go_wp2_with fail
    refine (BI.out _ hB2).mono ?_
    rintro e w3 ⟨v, u, rfl, o1, o2, hb3⟩
    have hz_w3 := hb3.size
    try simp only [World.size_alloc, World.size_setCell] at hz_w3
    have all_c : w3.cell? ⟨w.heap.size, 0, none⟩ = some (.int .i64 seg) ∧ w3.cell? ⟨w.heap.size, 1, none⟩ = some (.slice wa lw wc) ∧ w3.cell? ⟨w.heap.size, 2, none⟩ = some (.slice ka lk kc) ∧ w3.cell? ⟨w.heap.size, 3, none⟩ = some (.slice va lv vc) ∧ w3.cell? ⟨w.heap.size, 4, none⟩ = some (.slice ca lc cc) ∧ w3.cell? ⟨w.heap.size, 5, none⟩ = some (.int .u64 laid) := by refine ⟨?_, ?_, ?_, ?_, ?_, ?_⟩ <;> (refine (hb3.cell ?_).trans ?_ <;> first | (first | (with_reducible assumption) | omega | (simp only [World.size_alloc, World.size_setCell, World.size_drew, World.heap_drewN] <;> omega) | (simp <;> omega)) | (first | (with_reducible assumption) | ((try simp (disch := first | omega | (simp only [World.size_alloc, World.size_setCell, World.size_drew, World.heap_drewN] <;> omega) | fail) only [World.cell?_alloc_past, World.cell?_alloc_at, World.frozen?_alloc_past, World.frozen?_alloc_at, World.frozen?_setCell, World.cell?_drew, World.frozen?_drew]) <;> first | (with_reducible assumption) | rfl)))
    have all_z : w.heap.size < w3.heap.size := by omega
    clear c_s0 c_s1 c_s2 c_s3 c_s4 c_s5 z_s
    obtain ⟨c_s0, c_s1, c_s2, c_s3, c_s4, c_s5⟩ := all_c
    try clear all_c
    have z_s := all_z
    try clear all_z
    have hB3 : Below w.heap.size w w3 := by (repeat (first | (with_reducible exact Below.refl _ _) | (with_reducible assumption) | (with_reducible exact Hid.out (by with_reducible assumption)) | (with_reducible refine Below.alloc ?_ ?_ _) | (with_reducible refine Below.setCell ?_ ?_ _) | (with_reducible refine below_drewN ?_ _) | (with_reducible refine Below.drew ?_) | (with_reducible refine below_via (by with_reducible assumption) ?_ ?_) | (first | (with_reducible assumption) | omega | (simp only [World.size_alloc, World.size_setCell, World.size_drew, World.heap_drewN] <;> omega) | (simp <;> omega))))
    obtain ⟨ma, mc, rfl, -⟩ := owns_news o1
    obtain ⟨ca', cc', rfl, -⟩ := owns_news o2
    clear o1 o2 hb1 hb2 hb3
    go_wp2_with fail
    refine (FD.out _ (by (repeat (first | (with_reducible exact Below.refl _ _) | (with_reducible assumption) | (with_reducible exact Hid.out (by with_reducible assumption)) | (with_reducible refine Below.alloc ?_ ?_ _) | (with_reducible refine Below.setCell ?_ ?_ _) | (with_reducible refine below_drewN ?_ _) | (with_reducible refine Below.drew ?_) | (with_reducible refine below_via (by with_reducible assumption) ?_ ?_) | (first | (with_reducible assumption) | omega | (simp only [World.size_alloc, World.size_setCell, World.size_drew, World.heap_drewN] <;> omega) | (simp <;> omega)))))).mono ?_
    rintro e w4 ⟨rfl, hb4⟩
    have hz_w4 := hb4.size
    try simp only [World.size_alloc, World.size_setCell] at hz_w4
    have all_c : w4.cell? ⟨w.heap.size, 0, none⟩ = some (.int .i64 seg) ∧ w4.cell? ⟨w.heap.size, 1, none⟩ = some (.slice wa lw wc) ∧ w4.cell? ⟨w.heap.size, 2, none⟩ = some (.slice ka lk kc) ∧ w4.cell? ⟨w.heap.size, 3, none⟩ = some (.slice va lv vc) ∧ w4.cell? ⟨w.heap.size, 4, none⟩ = some (.slice ca lc cc) ∧ w4.cell? ⟨w.heap.size, 5, none⟩ = some (.int .u64 laid) := by refine ⟨?_, ?_, ?_, ?_, ?_, ?_⟩ <;> (refine (hb4.cell ?_).trans ?_ <;> first | (first | (with_reducible assumption) | omega | (simp only [World.size_alloc, World.size_setCell, World.size_drew, World.heap_drewN] <;> omega) | (simp <;> omega)) | (first | (with_reducible assumption) | ((try simp (disch := first | omega | (simp only [World.size_alloc, World.size_setCell, World.size_drew, World.heap_drewN] <;> omega) | fail) only [World.cell?_alloc_past, World.cell?_alloc_at, World.frozen?_alloc_past, World.frozen?_alloc_at, World.frozen?_setCell, World.cell?_drew, World.frozen?_drew]) <;> first | (with_reducible assumption) | rfl)))
    have all_z : w.heap.size < w4.heap.size := by omega
    clear c_s0 c_s1 c_s2 c_s3 c_s4 c_s5 z_s
    obtain ⟨c_s0, c_s1, c_s2, c_s3, c_s4, c_s5⟩ := all_c
    try clear all_c
    have z_s := all_z
    try clear all_z
    have hB4 : Below w.heap.size w w4 := by (repeat (first | (with_reducible exact Below.refl _ _) | (with_reducible assumption) | (with_reducible exact Hid.out (by with_reducible assumption)) | (with_reducible refine Below.alloc ?_ ?_ _) | (with_reducible refine Below.setCell ?_ ?_ _) | (with_reducible refine below_drewN ?_ _) | (with_reducible refine Below.drew ?_) | (with_reducible refine below_via (by with_reducible assumption) ?_ ?_) | (first | (with_reducible assumption) | omega | (simp only [World.size_alloc, World.size_setCell, World.size_drew, World.heap_drewN] <;> omega) | (simp <;> omega))))
    go_wp2
    go_ret
    exact ⟨rfl, hB4⟩

set_option maxRecDepth 100000 in
set_option maxHeartbeats 2000000 in
theorem First_in (S F q r : Nat) (wa ka va ca : Option Addr) (wc kc vc cc lw lk lv : Nat) (laid key L : Int) (bm bc : List Int) (f g : Nat → Int) (w : World) (hS : 4 ≤ S) (hF : F ≤ 8192) (hq : q < F) (hr : r ≤ 65536) (hrq : r / S = q)
    (hno : ∀ k, k < q → ¬ srv key (f k) (g k)) (hyes : srv key (f q) (g q))
    (GR : Hid (∀ W, Calls Tryd.prog 5 #[.agg #[.int .i64 S, .slice wa lw wc, .slice ka lk kc, .slice va lv vc, .slice ca F cc, .int .u64 laid], .int .i64 600] W (AnsB W (.bool false))))
    (BI : Hid (∀ W, Below w.heap.size w W → Calls Tryd.prog 6 #[.agg #[.int .i64 S, .slice wa lw wc, .slice ka lk kc, .slice va lv vc, .slice ca F cc, .int .u64 laid]] W (FreshIx2 W L bm bc (.int .i64 0))))
    (FD : Hid (∀ W, Below w.heap.size w W → Calls Tryd.prog 7 #[.agg #[.int .i64 S, .slice wa lw wc, .slice ka lk kc, .slice va lv vc, .slice ca F cc, .int .u64 laid], .int .i64 key] W (AnsB W (.tuple #[.int .i64 r, .int .i64 0]))))
    (LF : Hid (∀ k : Nat, k < F → ∀ W, Calls Tryd.prog 8 #[.int .i64 L, .int .i64 k] W fun e w' => e = .returned (.tuple #[.int .i64 (F + k : Nat), .int .i64 0]) ∧ W = w'))
    (AT : Hid (∀ k : Nat, k < F → ∀ xa xb xc xd W, IsRow .i64 W xa bm → IsRow .i64 W xb bc → Calls Tryd.prog 9 #[ixV L xa bm.length xc xb bc.length xd, .int .i64 (F + k : Nat)] W (AnsB W (.tuple #[.int .i64 (f k), .int .i64 (g k), .int .i64 0])))) :
    Calls Tryd.prog 3 #[.agg #[.int .i64 S, .slice wa lw wc, .slice ka lk kc, .slice va lv vc, .slice ca F cc, .int .u64 laid], .int .i64 key] w (AnsB w (.bool true)) := by
  have AL := Lib.hid alive_ok
  have HN := Lib.hid hno
  have HY := Lib.hid hyes
  have g3 : decide ((S : Int) > 0) = true := by simp; omega
  have g4 : ((S : Int) == 0) = false := by simp; omega
  have g5 : (r : Int).tdiv S = q := by rw [Int.tdiv_eq_ediv_of_nonneg (by omega), ← hrq]; rfl
  have g6 : (r : Int) / S = q := by rw [← hrq]; rfl
  have hq8 : (q : Int) ≤ 8192 := by omega
  have hwq : IntKind.i64.wrap (q : Int) = q := IntWalk.i64_in _ (by omega)
  clear hno hyes hrq
  go_enter Tryd.func3, Tryd.ntmps3
  go_wp2_with fail
  refine (AL.out _).mono ?_
  rintro e w1 ⟨rfl, hb1⟩
  have hz_w1 := hb1.size
  try simp only [World.size_alloc, World.size_setCell] at hz_w1
  have all_c : w1.cell? ⟨w.heap.size, 0, none⟩ = some (.int .i64 S) ∧ w1.cell? ⟨w.heap.size, 1, none⟩ = some (.slice wa lw wc) ∧ w1.cell? ⟨w.heap.size, 2, none⟩ = some (.slice ka lk kc) ∧ w1.cell? ⟨w.heap.size, 3, none⟩ = some (.slice va lv vc) ∧ w1.cell? ⟨w.heap.size, 4, none⟩ = some (.slice ca F cc) ∧ w1.cell? ⟨w.heap.size, 5, none⟩ = some (.int .u64 laid) := by refine ⟨?_, ?_, ?_, ?_, ?_, ?_⟩ <;> (refine (hb1.cell ?_).trans ?_ <;> first | (first | (with_reducible assumption) | omega | (simp only [World.size_alloc, World.size_setCell, World.size_drew, World.heap_drewN] <;> omega) | (simp <;> omega)) | (first | (with_reducible assumption) | ((try simp (disch := first | omega | (simp only [World.size_alloc, World.size_setCell, World.size_drew, World.heap_drewN] <;> omega) | fail) only [World.cell?_alloc_past, World.cell?_alloc_at, World.frozen?_alloc_past, World.frozen?_alloc_at, World.frozen?_setCell, World.cell?_drew, World.frozen?_drew]) <;> first | (with_reducible assumption) | rfl)))
  have all_z : w.heap.size < w1.heap.size := by omega
  obtain ⟨c_s0, c_s1, c_s2, c_s3, c_s4, c_s5⟩ := all_c
  try clear all_c
  have z_s := all_z
  try clear all_z
  have hB1 : Below w.heap.size w w1 := by (repeat (first | (with_reducible exact Below.refl _ _) | (with_reducible assumption) | (with_reducible exact Hid.out (by with_reducible assumption)) | (with_reducible refine Below.alloc ?_ ?_ _) | (with_reducible refine Below.setCell ?_ ?_ _) | (with_reducible refine below_drewN ?_ _) | (with_reducible refine Below.drew ?_) | (with_reducible refine below_via (by with_reducible assumption) ?_ ?_) | (first | (with_reducible assumption) | omega | (simp only [World.size_alloc, World.size_setCell, World.size_drew, World.heap_drewN] <;> omega) | (simp <;> omega))))
  go_wp2_with fail
  refine (GR.out _).mono ?_
  rintro e w2 ⟨rfl, hb2⟩
  have hz_w2 := hb2.size
  try simp only [World.size_alloc, World.size_setCell] at hz_w2
  have all_c : w2.cell? ⟨w.heap.size, 0, none⟩ = some (.int .i64 S) ∧ w2.cell? ⟨w.heap.size, 1, none⟩ = some (.slice wa lw wc) ∧ w2.cell? ⟨w.heap.size, 2, none⟩ = some (.slice ka lk kc) ∧ w2.cell? ⟨w.heap.size, 3, none⟩ = some (.slice va lv vc) ∧ w2.cell? ⟨w.heap.size, 4, none⟩ = some (.slice ca F cc) ∧ w2.cell? ⟨w.heap.size, 5, none⟩ = some (.int .u64 laid) := by refine ⟨?_, ?_, ?_, ?_, ?_, ?_⟩ <;> (refine (hb2.cell ?_).trans ?_ <;> first | (first | (with_reducible assumption) | omega | (simp only [World.size_alloc, World.size_setCell, World.size_drew, World.heap_drewN] <;> omega) | (simp <;> omega)) | (first | (with_reducible assumption) | ((try simp (disch := first | omega | (simp only [World.size_alloc, World.size_setCell, World.size_drew, World.heap_drewN] <;> omega) | fail) only [World.cell?_alloc_past, World.cell?_alloc_at, World.frozen?_alloc_past, World.frozen?_alloc_at, World.frozen?_setCell, World.cell?_drew, World.frozen?_drew]) <;> first | (with_reducible assumption) | rfl)))
  have all_z : w.heap.size < w2.heap.size := by omega
  clear c_s0 c_s1 c_s2 c_s3 c_s4 c_s5 z_s
  obtain ⟨c_s0, c_s1, c_s2, c_s3, c_s4, c_s5⟩ := all_c
  try clear all_c
  have z_s := all_z
  try clear all_z
  have hB2 : Below w.heap.size w w2 := by (repeat (first | (with_reducible exact Below.refl _ _) | (with_reducible assumption) | (with_reducible exact Hid.out (by with_reducible assumption)) | (with_reducible refine Below.alloc ?_ ?_ _) | (with_reducible refine Below.setCell ?_ ?_ _) | (with_reducible refine below_drewN ?_ _) | (with_reducible refine Below.drew ?_) | (with_reducible refine below_via (by with_reducible assumption) ?_ ?_) | (first | (with_reducible assumption) | omega | (simp only [World.size_alloc, World.size_setCell, World.size_drew, World.heap_drewN] <;> omega) | (simp <;> omega))))
  go_wp2_with fail
  refine (BI.out _ hB2).mono ?_
  rintro e w3 ⟨v, u, rfl, o1, o2, hb3⟩
  have hz_w3 := hb3.size
  try simp only [World.size_alloc, World.size_setCell] at hz_w3
  have all_c : w3.cell? ⟨w.heap.size, 0, none⟩ = some (.int .i64 S) ∧ w3.cell? ⟨w.heap.size, 1, none⟩ = some (.slice wa lw wc) ∧ w3.cell? ⟨w.heap.size, 2, none⟩ = some (.slice ka lk kc) ∧ w3.cell? ⟨w.heap.size, 3, none⟩ = some (.slice va lv vc) ∧ w3.cell? ⟨w.heap.size, 4, none⟩ = some (.slice ca F cc) ∧ w3.cell? ⟨w.heap.size, 5, none⟩ = some (.int .u64 laid) := by refine ⟨?_, ?_, ?_, ?_, ?_, ?_⟩ <;> (refine (hb3.cell ?_).trans ?_ <;> first | (first | (with_reducible assumption) | omega | (simp only [World.size_alloc, World.size_setCell, World.size_drew, World.heap_drewN] <;> omega) | (simp <;> omega)) | (first | (with_reducible assumption) | ((try simp (disch := first | omega | (simp only [World.size_alloc, World.size_setCell, World.size_drew, World.heap_drewN] <;> omega) | fail) only [World.cell?_alloc_past, World.cell?_alloc_at, World.frozen?_alloc_past, World.frozen?_alloc_at, World.frozen?_setCell, World.cell?_drew, World.frozen?_drew]) <;> first | (with_reducible assumption) | rfl)))
  have all_z : w.heap.size < w3.heap.size := by omega
  clear c_s0 c_s1 c_s2 c_s3 c_s4 c_s5 z_s
  obtain ⟨c_s0, c_s1, c_s2, c_s3, c_s4, c_s5⟩ := all_c
  try clear all_c
  have z_s := all_z
  try clear all_z
  have hB3 : Below w.heap.size w w3 := by (repeat (first | (with_reducible exact Below.refl _ _) | (with_reducible assumption) | (with_reducible exact Hid.out (by with_reducible assumption)) | (with_reducible refine Below.alloc ?_ ?_ _) | (with_reducible refine Below.setCell ?_ ?_ _) | (with_reducible refine below_drewN ?_ _) | (with_reducible refine Below.drew ?_) | (with_reducible refine below_via (by with_reducible assumption) ?_ ?_) | (first | (with_reducible assumption) | omega | (simp only [World.size_alloc, World.size_setCell, World.size_drew, World.heap_drewN] <;> omega) | (simp <;> omega))))
  obtain ⟨ma, mc, rfl, i1, -, -, -, -⟩ := row_of_owns o1
  obtain ⟨ca', cc', rfl, i2, -, -, -, -⟩ := row_of_owns o2
  have I1 := Lib.hid (fun W (hb : Below w3.heap.size w3 W) => i1.below hb)
  have I2 := Lib.hid (fun W (hb : Below w3.heap.size w3 W) => i2.below hb)
  clear o1 o2 i1 i2 hb1 hb2 hb3
  go_wp2_with fail
  refine (FD.out _ (by (repeat (first | (with_reducible exact Below.refl _ _) | (with_reducible assumption) | (with_reducible exact Hid.out (by with_reducible assumption)) | (with_reducible refine Below.alloc ?_ ?_ _) | (with_reducible refine Below.setCell ?_ ?_ _) | (with_reducible refine below_drewN ?_ _) | (with_reducible refine Below.drew ?_) | (with_reducible refine below_via (by with_reducible assumption) ?_ ?_) | (first | (with_reducible assumption) | omega | (simp only [World.size_alloc, World.size_setCell, World.size_drew, World.heap_drewN] <;> omega) | (simp <;> omega)))))).mono ?_
  rintro e w4 ⟨rfl, hb4⟩
  have hz_w4 := hb4.size
  try simp only [World.size_alloc, World.size_setCell] at hz_w4
  have all_c : w4.cell? ⟨w.heap.size, 0, none⟩ = some (.int .i64 S) ∧ w4.cell? ⟨w.heap.size, 1, none⟩ = some (.slice wa lw wc) ∧ w4.cell? ⟨w.heap.size, 2, none⟩ = some (.slice ka lk kc) ∧ w4.cell? ⟨w.heap.size, 3, none⟩ = some (.slice va lv vc) ∧ w4.cell? ⟨w.heap.size, 4, none⟩ = some (.slice ca F cc) ∧ w4.cell? ⟨w.heap.size, 5, none⟩ = some (.int .u64 laid) ∧ w4.cell? ⟨w3.heap.size, 0, none⟩ = some (.int .i64 L) ∧ w4.cell? ⟨w3.heap.size, 1, none⟩ = some (.slice ma bm.length mc) ∧ w4.cell? ⟨w3.heap.size, 2, none⟩ = some (.slice ca' bc.length cc') := by refine ⟨?_, ?_, ?_, ?_, ?_, ?_, ?_, ?_, ?_⟩ <;> (refine (hb4.cell ?_).trans ?_ <;> first | (first | (with_reducible assumption) | omega | (simp only [World.size_alloc, World.size_setCell, World.size_drew, World.heap_drewN] <;> omega) | (simp <;> omega)) | (first | (with_reducible assumption) | ((try simp (disch := first | omega | (simp only [World.size_alloc, World.size_setCell, World.size_drew, World.heap_drewN] <;> omega) | fail) only [World.cell?_alloc_past, World.cell?_alloc_at, World.frozen?_alloc_past, World.frozen?_alloc_at, World.frozen?_setCell, World.cell?_drew, World.frozen?_drew]) <;> first | (with_reducible assumption) | rfl)))
  have all_z : w.heap.size < w4.heap.size ∧ w3.heap.size < w4.heap.size := by refine ⟨?_, ?_⟩ <;> (omega)
  clear c_s0 c_s1 c_s2 c_s3 c_s4 c_s5 z_s
  obtain ⟨c_s0, c_s1, c_s2, c_s3, c_s4, c_s5, c_x0, c_x1, c_x2⟩ := all_c
  try clear all_c
  obtain ⟨z_s, z_x⟩ := all_z
  try clear all_z
  have h4 : Below w3.heap.size w3 w4 := by (repeat (first | (with_reducible exact Below.refl _ _) | (with_reducible assumption) | (with_reducible exact Hid.out (by with_reducible assumption)) | (with_reducible refine Below.alloc ?_ ?_ _) | (with_reducible refine Below.setCell ?_ ?_ _) | (with_reducible refine below_drewN ?_ _) | (with_reducible refine Below.drew ?_) | (with_reducible refine below_via (by with_reducible assumption) ?_ ?_) | (first | (with_reducible assumption) | omega | (simp only [World.size_alloc, World.size_setCell, World.size_drew, World.heap_drewN] <;> omega) | (simp <;> omega))))
  go_wp2
  go_loopg [10] q (fun gk kv wr => ∃ k : Nat, k + gk = q ∧ kv = .int .i64 k ∧ Hid (Below w4.heap.size w4 wr))
  case atStart => exact ⟨0, by omega, rfl, Lib.hid (Below.refl _ _)⟩
  case round =>
    obtain ⟨k, hk, rfl, HBr⟩ := hrel
    have hzr := HBr.out.size
    have hz_wr := HBr.out.size
    try simp only [World.size_alloc, World.size_setCell] at hz_wr
    have all_c : wr.cell? ⟨w.heap.size, 0, none⟩ = some (.int .i64 S) ∧ wr.cell? ⟨w.heap.size, 1, none⟩ = some (.slice wa lw wc) ∧ wr.cell? ⟨w.heap.size, 2, none⟩ = some (.slice ka lk kc) ∧ wr.cell? ⟨w.heap.size, 3, none⟩ = some (.slice va lv vc) ∧ wr.cell? ⟨w.heap.size, 4, none⟩ = some (.slice ca F cc) ∧ wr.cell? ⟨w.heap.size, 5, none⟩ = some (.int .u64 laid) ∧ wr.cell? ⟨w3.heap.size, 0, none⟩ = some (.int .i64 L) ∧ wr.cell? ⟨w3.heap.size, 1, none⟩ = some (.slice ma bm.length mc) ∧ wr.cell? ⟨w3.heap.size, 2, none⟩ = some (.slice ca' bc.length cc') := by refine ⟨?_, ?_, ?_, ?_, ?_, ?_, ?_, ?_, ?_⟩ <;> (refine (HBr.out.cell ?_).trans ?_ <;> first | (first | (with_reducible assumption) | omega | (simp only [World.size_alloc, World.size_setCell, World.size_drew, World.heap_drewN] <;> omega) | (simp <;> omega)) | (first | (with_reducible assumption) | ((try simp (disch := first | omega | (simp only [World.size_alloc, World.size_setCell, World.size_drew, World.heap_drewN] <;> omega) | fail) only [World.cell?_alloc_past, World.cell?_alloc_at, World.frozen?_alloc_past, World.frozen?_alloc_at, World.frozen?_setCell, World.cell?_drew, World.frozen?_drew]) <;> first | (with_reducible assumption) | rfl)))
    have all_z : w.heap.size < wr.heap.size ∧ w3.heap.size < wr.heap.size := by refine ⟨?_, ?_⟩ <;> (omega)
    clear c_s0 c_s1 c_s2 c_s3 c_s4 c_s5 c_x0 c_x1 c_x2 z_s z_x
    obtain ⟨c_s0, c_s1, c_s2, c_s3, c_s4, c_s5, c_x0, c_x1, c_x2⟩ := all_c
    try clear all_c
    obtain ⟨z_s, z_x⟩ := all_z
    try clear all_z
    have h4r : Below w3.heap.size w3 wr := below_via HBr.out h4 (by omega)
    have hkF : k < F := by omega
    have L1 := Lib.hid (LF.out k hkF)
    have A1 := Lib.hid (fun W (hW : Below w3.heap.size w3 W) => AT.out k hkF ma ca' mc cc' W (I1.out W hW) (I2.out W hW))
    have g0 : decide ((k : Int) < F) = true := by simp; omega
    by_cases hlt : k < q
    · have N1 := HN.out k hlt
      have HK := Lib.hid hk
      clear hk
      generalize f k = X at *
      generalize g k = G at *
      by_cases hG : 0 < G
      · have g1 : decide (G > 0) = true := by simpa using hG
        have g2 : decide (X ≥ key) = false := by
          simp
          exact Int.not_le.1 fun h => N1 ⟨hG, h⟩
        have g7 : ¬ key ≤ X := fun h => N1 ⟨hG, h⟩
        clear N1
        go_wp2_with fail
        refine (L1.out _).mono ?_
        rintro e w' ⟨rfl, rfl⟩
        go_wp2_with fail
        refine (A1.out _ h4r).mono ?_
        rintro e w5 ⟨rfl, hb5⟩
        have HB5 := Lib.hid (HBr.out.trans (hb5.mono hzr))
        clear hb5
        go_wp2
        go_roundg (gk - 1)
        case measure => have := HK.out; omega
        case rel => exact ⟨k + 1, by have := HK.out; omega, by go_num, HB5⟩
      · have g1 : decide (G > 0) = false := by simp; omega
        clear N1
        go_wp2_with fail
        refine (L1.out _).mono ?_
        rintro e w' ⟨rfl, rfl⟩
        go_wp2_with fail
        refine (A1.out _ h4r).mono ?_
        rintro e w5 ⟨rfl, hb5⟩
        have HB5 := Lib.hid (HBr.out.trans (hb5.mono hzr))
        clear hb5
        go_wp2
        go_roundg (gk - 1)
        case measure => have := HK.out; omega
        case rel => exact ⟨k + 1, by have := HK.out; omega, by go_num, HB5⟩
    · have hkq : k = q := by omega
      subst hkq
      obtain ⟨y1, y2⟩ := HY.out
      generalize f k = X at *
      generalize g k = G at *
      have g1 : decide (G > 0) = true := by simpa using y1
      have g2 : decide (X ≥ key) = true := by simpa using y2
      go_wp2_with fail
      refine (L1.out _).mono ?_
      rintro e w' ⟨rfl, rfl⟩
      go_wp2_with fail
      refine (A1.out _ h4r).mono ?_
      rintro e w5 ⟨rfl, hb5⟩
      have hz_w5 := hb5.size
      try simp only [World.size_alloc, World.size_setCell] at hz_w5
      have all_c : w5.cell? ⟨w.heap.size, 0, none⟩ = some (.int .i64 S) ∧ w5.cell? ⟨w.heap.size, 1, none⟩ = some (.slice wa lw wc) ∧ w5.cell? ⟨w.heap.size, 2, none⟩ = some (.slice ka lk kc) ∧ w5.cell? ⟨w.heap.size, 3, none⟩ = some (.slice va lv vc) ∧ w5.cell? ⟨w.heap.size, 4, none⟩ = some (.slice ca F cc) ∧ w5.cell? ⟨w.heap.size, 5, none⟩ = some (.int .u64 laid) ∧ w5.cell? ⟨w3.heap.size, 0, none⟩ = some (.int .i64 L) ∧ w5.cell? ⟨w3.heap.size, 1, none⟩ = some (.slice ma bm.length mc) ∧ w5.cell? ⟨w3.heap.size, 2, none⟩ = some (.slice ca' bc.length cc') := by refine ⟨?_, ?_, ?_, ?_, ?_, ?_, ?_, ?_, ?_⟩ <;> (refine (hb5.cell ?_).trans ?_ <;> first | (first | (with_reducible assumption) | omega | (simp only [World.size_alloc, World.size_setCell, World.size_drew, World.heap_drewN] <;> omega) | (simp <;> omega)) | (first | (with_reducible assumption) | ((try simp (disch := first | omega | (simp only [World.size_alloc, World.size_setCell, World.size_drew, World.heap_drewN] <;> omega) | fail) only [World.cell?_alloc_past, World.cell?_alloc_at, World.frozen?_alloc_past, World.frozen?_alloc_at, World.frozen?_setCell, World.cell?_drew, World.frozen?_drew]) <;> first | (with_reducible assumption) | rfl)))
      have all_z : w.heap.size < w5.heap.size ∧ w3.heap.size < w5.heap.size := by refine ⟨?_, ?_⟩ <;> (omega)
      clear c_s0 c_s1 c_s2 c_s3 c_s4 c_s5 c_x0 c_x1 c_x2 z_s z_x
      obtain ⟨c_s0, c_s1, c_s2, c_s3, c_s4, c_s5, c_x0, c_x1, c_x2⟩ := all_c
      try clear all_c
      obtain ⟨z_s, z_x⟩ := all_z
      try clear all_z
      have hB5 : Below w.heap.size w w5 := below_via hb5 (below_via h4r hB3 (by omega)) (by omega)
      clear hb5
      go_wp2
      go_ret
      exact ⟨by simp, hB5⟩

theorem IndexFirst_walk (w : World) (sl : SlC) (al : SlA) (hin : SlIn w sl al) (key : Int) (hT : TabAt w) :
    Calls Tryd.prog 3 #[slV sl al, .int .i64 key] w fun e w' => e = .returned (.bool true) ∧ Below w.heap.size w w' := by
  have GR := Lib.hid (fun w' => Great04_ok sl.seg al.wa al.ka al.va al.ca al.wc al.kc al.vc al.cc sl.ws.length sl.ks.length sl.vs.length sl.cs.length sl.laid 600 w')
  by_cases hg : gr4 600 sl.ks.length sl.vs.length sl.ws.length sl.cs.length = true
  · rw [hg] at GR
    exact First_great _ _ _ _ _ _ _ _ _ _ _ _ _ _ key w GR
  · have hg0 : gr4 600 sl.ks.length sl.vs.length sl.ws.length sl.cs.length = false := by simpa using hg
    rw [hg0] at GR
    simp only [gr4, Bool.or_eq_false_iff, decide_eq_false_iff_not] at hg0
    have BI := Lib.hid (fun W (hb : Below w.heap.size w W) => BuildIx_ok sl al (by omega) (by omega) W (hin.below hb))
    have FD := Lib.hid (fun W (hb : Below w.heap.size w W) => seekFind_ok sl al key (by omega) (by omega) W (hin.below hb) (hT.below hb))
    by_cases h0 : bldE sl = 0
    · by_cases hf : (findV sl key).2 = 0
      · obtain ⟨S, D, hS, h4, h64, hcs, hD, hk, hSM, hL, hv⟩ := leaf_vals h0
        have hn0 : (nextV sl key).2 = 0 := by
          unfold findV at hf
          by_cases h : (nextV sl key).2 = 0
          · exact h
          · rw [if_neg h] at hf; exact hf
        obtain ⟨r, e1, hr, hr2, hs⟩ := nextV_in hn0
        have e2 : findV sl key = ((r : Int), 0) := by
          have hf2 := hf
          unfold findV at hf ⊢
          rw [if_pos hn0] at hf ⊢
          split at hf
          · rename_i hh
            rw [if_pos hh, e1]
          · cases hf
        obtain ⟨l1, l2⟩ := leaf_first h0 h4 hk hr2 rfl
        obtain ⟨l3, l4⟩ := l2 hr
        rw [e2] at FD
        rw [h0] at BI
        have hmay := bld_may h0
        rw [hL] at hmay
        have hp := Nat.two_pow_pos D
        have hp2 : 2 ^ (D + 1) = 2 * 2 ^ D := by rw [Nat.pow_succ]; omega
        have hp3 : 2 ^ D ≤ 2 ^ 13 := Nat.pow_le_pow_right (by omega) hD
        have hF : (2 : Int) ^ D = ((2 ^ D : Nat) : Int) := by push_cast; rfl
        have hat : ∀ k, k < 2 ^ D → atE (bldL sl) (bldM sl) (bldC sl) ((2 ^ D + k : Nat) : Int) = 0 := fun k hk' => by
          rw [hL, atE, if_pos hmay, if_pos ⟨by omega, by
            have : (2 : Int) ^ (((D + 1 : Nat) : Int).toNat) = ((2 ^ (D + 1) : Nat) : Int) := by rw [Int.toNat_natCast]; push_cast; rfl
            rw [this]; omega⟩]
        obtain ⟨seg, ws, ks, vs, cs, laid⟩ := sl
        dsimp only at hS hcs hk e1 hr hr2 l1 l2 l3 l4
        subst hS
        rw [hcs] at GR
        have := First_in S (2 ^ D) (r / S) r al.wa al.ka al.va al.ca al.wc al.kc al.vc al.cc ws.length ks.length vs.length laid key _ _ _ (fun k => (tellT (prs ⟨S, ws, ks, vs, cs, laid⟩ (k * S) ((k + 1) * S))).1) (fun k => (tellT (prs ⟨S, ws, ks, vs, cs, laid⟩ (k * S) ((k + 1) * S))).2) w h4 (by omega) l3 (by omega) rfl (fun k hk' => l1 k hk' (by omega)) l4 GR
          (Lib.hid fun W hb => by have := BI.out W hb; dsimp only [slV] at this; rw [hcs] at this; exact this) (Lib.hid fun W hb => by have := FD.out W hb; dsimp only [slV] at this; rw [hcs] at this; exact this)
          (Lib.hid fun k hk' W => by
            have := Leaf_any (bldL ⟨S, ws, ks, vs, cs, laid⟩) (k : Nat) W
            have hE : lfE (bldL ⟨S, ws, ks, vs, cs, laid⟩) (k : Nat) = 0 := by
              rw [hL]
              exact if_pos ⟨by omega, by omega, by rw [Int.toNat_natCast, Nat.add_sub_cancel, hF]; omega⟩
            have hR : lfR (bldL ⟨S, ws, ks, vs, cs, laid⟩) (k : Nat) = ((2 ^ D + k : Nat) : Int) := by
              rw [lfR, if_pos hE, hL, Int.toNat_natCast, Nat.add_sub_cancel, hF]
              push_cast
              rfl
            rw [hE, hR] at this
            exact this)
          (Lib.hid fun k hk' xa xb xc xd W h1 h2 => by
            have := At_ix (bldL ⟨S, ws, ks, vs, cs, laid⟩) ((2 ^ D + k : Nat) : Int) xa xb xc xd _ _ W h1 h2
            have hE := hat k hk'
            rw [atM, atC, if_pos hE, if_pos hE, hE, Int.toNat_natCast, hL, Int.toNat_natCast, (hv k hk').1, (hv k hk').2] at this
            rw [hL]
            exact this)
        dsimp only [slV]
        rw [hcs]
        exact this
      · rw [h0] at BI
        exact First_no _ _ _ _ _ _ _ _ _ _ _ _ _ _ key _ _ _ _ _ _ (.inr ⟨rfl, hf⟩) w GR BI FD
    · exact First_no _ _ _ _ _ _ _ _ _ _ _ _ _ _ key _ _ _ _ _ _ (.inl h0) w GR BI FD
end Go.Proofs.YtelckhfmchnpnaaDoor
