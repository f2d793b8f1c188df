/-
  DownHome: the leaf of a key of an array's index is that of the slot of seek.Next, and the keys ahead are those below its segment's.
  The table of math/bits holds what its text lays.
-/
import Derived.Test.YtfmoghjddfjfmaaDoorFindAll
import Derived.Test.YtfmoghjddfjfmaaDoorLfHm
import Derived.Test.YtfmoghjddfjfmaaDoorDwnA
import Derived.Test.YtfmoghjddfjfmaaDoorSlTw
import Derived.Lib.QuietBelow
namespace Go.Proofs.YtfmoghjddfjfmaaDoor
open Go.RowKit Go.Sort
set_option linter.unusedVariables false
set_option linter.unusedSimpArgs false

set_option maxRecDepth 100000 in
set_option maxHeartbeats 1000000 in
theorem Hm_great (seg : Int) (wa ka va ca : Option Addr) (wc kc vc cc lw lk lv lc : Nat) (laid key : Int) (w : World)
    (AL : Hid (∀ W, Calls Tryd.prog 4 #[] W (AnsB W (.bool true))))
    (GR : Hid (∀ W, Calls Tryd.prog 5 #[.agg #[.int .i64 seg, .slice wa lw wc, .slice ka lk kc, .slice va lv vc, .slice ca lc cc, .int .u64 laid], .int .i64 600] W (AnsB W (.bool true)))) :
    Calls Tryd.prog 3 #[.agg #[.int .i64 seg, .slice wa lw wc, .slice ka lk kc, .slice va lv vc, .slice ca lc cc, .int .u64 laid], .int .i64 key] w (AnsB w (.bool true)) := by
  go_enter Tryd.func3, Tryd.ntmps3
  go_wp2_with fail
  refine (AL.out _).mono ?_
  rintro e w1 ⟨rfl, hb1⟩
  have hz_w1 := hb1.size
  try simp only [World.size_alloc, World.size_setCell] at hz_w1
  have all_c : w1.cell? ⟨w.heap.size, 0, none⟩ = some (.int .i64 seg) ∧ w1.cell? ⟨w.heap.size, 1, none⟩ = some (.slice wa lw wc) ∧ w1.cell? ⟨w.heap.size, 2, none⟩ = some (.slice ka lk kc) ∧ w1.cell? ⟨w.heap.size, 3, none⟩ = some (.slice va lv vc) ∧ w1.cell? ⟨w.heap.size, 4, none⟩ = some (.slice ca lc cc) ∧ w1.cell? ⟨w.heap.size, 5, none⟩ = some (.int .u64 laid) := by refine ⟨?_, ?_, ?_, ?_, ?_, ?_⟩ <;> (refine (hb1.cell ?_).trans ?_ <;> first | (first | (with_reducible assumption) | omega | (simp only [World.size_alloc, World.size_setCell, World.size_drew, World.heap_drewN] <;> omega) | (simp <;> omega)) | (first | (with_reducible assumption) | ((try simp (disch := first | omega | (simp only [World.size_alloc, World.size_setCell, World.size_drew, World.heap_drewN] <;> omega) | fail) only [World.cell?_alloc_past, World.cell?_alloc_at, World.frozen?_alloc_past, World.frozen?_alloc_at, World.frozen?_setCell, World.cell?_drew, World.frozen?_drew]) <;> first | (with_reducible assumption) | rfl)))
  have all_z : w.heap.size < w1.heap.size := by omega
  obtain ⟨c_s0, c_s1, c_s2, c_s3, c_s4, c_s5⟩ := all_c
  try clear all_c
  have z_s := all_z
  try clear all_z
  have hB1 : Below w.heap.size w w1 := by (repeat (first | (with_reducible exact Below.refl _ _) | (with_reducible assumption) | (with_reducible exact Hid.out (by with_reducible assumption)) | (with_reducible refine Below.alloc ?_ ?_ _) | (with_reducible refine Below.setCell ?_ ?_ _) | (with_reducible refine below_drewN ?_ _) | (with_reducible refine Below.drew ?_) | (with_reducible refine below_via (by with_reducible assumption) ?_ ?_) | (first | (with_reducible assumption) | omega | (simp only [World.size_alloc, World.size_setCell, World.size_drew, World.heap_drewN] <;> omega) | (simp <;> omega))))
  go_wp2_with fail
  refine (GR.out _).mono ?_
  rintro e w2 ⟨rfl, hb2⟩
  have hz_w2 := hb2.size
  try simp only [World.size_alloc, World.size_setCell] at hz_w2
  have all_c : w2.cell? ⟨w.heap.size, 0, none⟩ = some (.int .i64 seg) ∧ w2.cell? ⟨w.heap.size, 1, none⟩ = some (.slice wa lw wc) ∧ w2.cell? ⟨w.heap.size, 2, none⟩ = some (.slice ka lk kc) ∧ w2.cell? ⟨w.heap.size, 3, none⟩ = some (.slice va lv vc) ∧ w2.cell? ⟨w.heap.size, 4, none⟩ = some (.slice ca lc cc) ∧ w2.cell? ⟨w.heap.size, 5, none⟩ = some (.int .u64 laid) := by refine ⟨?_, ?_, ?_, ?_, ?_, ?_⟩ <;> (refine (hb2.cell ?_).trans ?_ <;> first | (first | (with_reducible assumption) | omega | (simp only [World.size_alloc, World.size_setCell, World.size_drew, World.heap_drewN] <;> omega) | (simp <;> omega)) | (first | (with_reducible assumption) | ((try simp (disch := first | omega | (simp only [World.size_alloc, World.size_setCell, World.size_drew, World.heap_drewN] <;> omega) | fail) only [World.cell?_alloc_past, World.cell?_alloc_at, World.frozen?_alloc_past, World.frozen?_alloc_at, World.frozen?_setCell, World.cell?_drew, World.frozen?_drew]) <;> first | (with_reducible assumption) | rfl)))
  have all_z : w.heap.size < w2.heap.size := by omega
  clear c_s0 c_s1 c_s2 c_s3 c_s4 c_s5 z_s
  obtain ⟨c_s0, c_s1, c_s2, c_s3, c_s4, c_s5⟩ := all_c
  try clear all_c
  have z_s := all_z
  try clear all_z
  have hB2 : Below w.heap.size w w2 := by (repeat (first | (with_reducible exact Below.refl _ _) | (with_reducible assumption) | (with_reducible exact Hid.out (by with_reducible assumption)) | (with_reducible refine Below.alloc ?_ ?_ _) | (with_reducible refine Below.setCell ?_ ?_ _) | (with_reducible refine below_drewN ?_ _) | (with_reducible refine Below.drew ?_) | (with_reducible refine below_via (by with_reducible assumption) ?_ ?_) | (first | (with_reducible assumption) | omega | (simp only [World.size_alloc, World.size_setCell, World.size_drew, World.heap_drewN] <;> omega) | (simp <;> omega))))
  go_wp2
  go_ret
  exact ⟨rfl, hB2⟩

set_option maxRecDepth 100000 in
set_option maxHeartbeats 1000000 in
theorem Hm_bad (seg : Int) (wa ka va ca : Option Addr) (wc kc vc cc lw lk lv lc : Nat) (laid key L x y t p q g : Int) (bm bc : List Int) (hx0 : x ≠ 0) (hm : bm = []) (w : World)
    (AL : Hid (∀ W, Calls Tryd.prog 4 #[] W (AnsB W (.bool true))))
    (GR : Hid (∀ W, Calls Tryd.prog 5 #[.agg #[.int .i64 seg, .slice wa lw wc, .slice ka lk kc, .slice va lv vc, .slice ca lc cc, .int .u64 laid], .int .i64 600] W (AnsB W (.bool false))))
    (BI : Hid (∀ W, Below w.heap.size w W → Calls Tryd.prog 6 #[.agg #[.int .i64 seg, .slice wa lw wc, .slice ka lk kc, .slice va lv vc, .slice ca lc cc, .int .u64 laid]] W (FreshIx2 W L bm bc (.int .i64 x))))
    (NX : Hid (∀ W, Below w.heap.size w W → Calls Tryd.prog 7 #[.agg #[.int .i64 seg, .slice wa lw wc, .slice ka lk kc, .slice va lv vc, .slice ca lc cc, .int .u64 laid], .int .i64 key] W (AnsB W (.tuple #[.int .i64 t, .int .i64 y]))))
    (HM : Hid (∀ xa xb xc xd W, IsRow .i64 W xa bm → IsRow .i64 W xb bc → Calls Tryd.prog 8 #[ixV L xa bm.length xc xb bc.length xd, .int .i64 key] W (AnsB W (.tuple #[.int .i64 p, .int .i64 q, .int .i64 g])))) :
    Calls Tryd.prog 3 #[.agg #[.int .i64 seg, .slice wa lw wc, .slice ka lk kc, .slice va lv vc, .slice ca lc cc, .int .u64 laid], .int .i64 key] w (AnsB w (.bool true)) := by
  have g1 : (x != 0) = true := by simpa using hx0
  have g0 : ((bm.length : Int) == 0) = true := by rw [hm]; rfl
  clear hx0 hm
  go_enter Tryd.func3, Tryd.ntmps3
  go_wp2_with fail
  refine (AL.out _).mono ?_
  rintro e w1 ⟨rfl, hb1⟩
  have hz_w1 := hb1.size
  try simp only [World.size_alloc, World.size_setCell] at hz_w1
  have all_c : w1.cell? ⟨w.heap.size, 0, none⟩ = some (.int .i64 seg) ∧ w1.cell? ⟨w.heap.size, 1, none⟩ = some (.slice wa lw wc) ∧ w1.cell? ⟨w.heap.size, 2, none⟩ = some (.slice ka lk kc) ∧ w1.cell? ⟨w.heap.size, 3, none⟩ = some (.slice va lv vc) ∧ w1.cell? ⟨w.heap.size, 4, none⟩ = some (.slice ca lc cc) ∧ w1.cell? ⟨w.heap.size, 5, none⟩ = some (.int .u64 laid) := by refine ⟨?_, ?_, ?_, ?_, ?_, ?_⟩ <;> (refine (hb1.cell ?_).trans ?_ <;> first | (first | (with_reducible assumption) | omega | (simp only [World.size_alloc, World.size_setCell, World.size_drew, World.heap_drewN] <;> omega) | (simp <;> omega)) | (first | (with_reducible assumption) | ((try simp (disch := first | omega | (simp only [World.size_alloc, World.size_setCell, World.size_drew, World.heap_drewN] <;> omega) | fail) only [World.cell?_alloc_past, World.cell?_alloc_at, World.frozen?_alloc_past, World.frozen?_alloc_at, World.frozen?_setCell, World.cell?_drew, World.frozen?_drew]) <;> first | (with_reducible assumption) | rfl)))
  have all_z : w.heap.size < w1.heap.size := by omega
  obtain ⟨c_s0, c_s1, c_s2, c_s3, c_s4, c_s5⟩ := all_c
  try clear all_c
  have z_s := all_z
  try clear all_z
  have hB1 : Below w.heap.size w w1 := by (repeat (first | (with_reducible exact Below.refl _ _) | (with_reducible assumption) | (with_reducible exact Hid.out (by with_reducible assumption)) | (with_reducible refine Below.alloc ?_ ?_ _) | (with_reducible refine Below.setCell ?_ ?_ _) | (with_reducible refine below_drewN ?_ _) | (with_reducible refine Below.drew ?_) | (with_reducible refine below_via (by with_reducible assumption) ?_ ?_) | (first | (with_reducible assumption) | omega | (simp only [World.size_alloc, World.size_setCell, World.size_drew, World.heap_drewN] <;> omega) | (simp <;> omega))))
  go_wp2_with fail
  refine (GR.out _).mono ?_
  rintro e w2 ⟨rfl, hb2⟩
  have hz_w2 := hb2.size
  try simp only [World.size_alloc, World.size_setCell] at hz_w2
  have all_c : w2.cell? ⟨w.heap.size, 0, none⟩ = some (.int .i64 seg) ∧ w2.cell? ⟨w.heap.size, 1, none⟩ = some (.slice wa lw wc) ∧ w2.cell? ⟨w.heap.size, 2, none⟩ = some (.slice ka lk kc) ∧ w2.cell? ⟨w.heap.size, 3, none⟩ = some (.slice va lv vc) ∧ w2.cell? ⟨w.heap.size, 4, none⟩ = some (.slice ca lc cc) ∧ w2.cell? ⟨w.heap.size, 5, none⟩ = some (.int .u64 laid) := by refine ⟨?_, ?_, ?_, ?_, ?_, ?_⟩ <;> (refine (hb2.cell ?_).trans ?_ <;> first | (first | (with_reducible assumption) | omega | (simp only [World.size_alloc, World.size_setCell, World.size_drew, World.heap_drewN] <;> omega) | (simp <;> omega)) | (first | (with_reducible assumption) | ((try simp (disch := first | omega | (simp only [World.size_alloc, World.size_setCell, World.size_drew, World.heap_drewN] <;> omega) | fail) only [World.cell?_alloc_past, World.cell?_alloc_at, World.frozen?_alloc_past, World.frozen?_alloc_at, World.frozen?_setCell, World.cell?_drew, World.frozen?_drew]) <;> first | (with_reducible assumption) | rfl)))
  have all_z : w.heap.size < w2.heap.size := by omega
  clear c_s0 c_s1 c_s2 c_s3 c_s4 c_s5 z_s
  obtain ⟨c_s0, c_s1, c_s2, c_s3, c_s4, c_s5⟩ := all_c
  try clear all_c
  have z_s := all_z
  try clear all_z
  have hB2 : Below w.heap.size w w2 := by (repeat (first | (with_reducible exact Below.refl _ _) | (with_reducible assumption) | (with_reducible exact Hid.out (by with_reducible assumption)) | (with_reducible refine Below.alloc ?_ ?_ _) | (with_reducible refine Below.setCell ?_ ?_ _) | (with_reducible refine below_drewN ?_ _) | (with_reducible refine Below.drew ?_) | (with_reducible refine below_via (by with_reducible assumption) ?_ ?_) | (first | (with_reducible assumption) | omega | (simp only [World.size_alloc, World.size_setCell, World.size_drew, World.heap_drewN] <;> omega) | (simp <;> omega))))
  go_wp2_with fail
  refine (BI.out _ hB2).mono ?_
  rintro e w3 ⟨v, u, rfl, o1, o2, hb3⟩
  have hz_w3 := hb3.size
  try simp only [World.size_alloc, World.size_setCell] at hz_w3
  have all_c : w3.cell? ⟨w.heap.size, 0, none⟩ = some (.int .i64 seg) ∧ w3.cell? ⟨w.heap.size, 1, none⟩ = some (.slice wa lw wc) ∧ w3.cell? ⟨w.heap.size, 2, none⟩ = some (.slice ka lk kc) ∧ w3.cell? ⟨w.heap.size, 3, none⟩ = some (.slice va lv vc) ∧ w3.cell? ⟨w.heap.size, 4, none⟩ = some (.slice ca lc cc) ∧ w3.cell? ⟨w.heap.size, 5, none⟩ = some (.int .u64 laid) := by refine ⟨?_, ?_, ?_, ?_, ?_, ?_⟩ <;> (refine (hb3.cell ?_).trans ?_ <;> first | (first | (with_reducible assumption) | omega | (simp only [World.size_alloc, World.size_setCell, World.size_drew, World.heap_drewN] <;> omega) | (simp <;> omega)) | (first | (with_reducible assumption) | ((try simp (disch := first | omega | (simp only [World.size_alloc, World.size_setCell, World.size_drew, World.heap_drewN] <;> omega) | fail) only [World.cell?_alloc_past, World.cell?_alloc_at, World.frozen?_alloc_past, World.frozen?_alloc_at, World.frozen?_setCell, World.cell?_drew, World.frozen?_drew]) <;> first | (with_reducible assumption) | rfl)))
  have all_z : w.heap.size < w3.heap.size := by omega
  clear c_s0 c_s1 c_s2 c_s3 c_s4 c_s5 z_s
  obtain ⟨c_s0, c_s1, c_s2, c_s3, c_s4, c_s5⟩ := all_c
  try clear all_c
  have z_s := all_z
  try clear all_z
  have hB3 : Below w.heap.size w w3 := by (repeat (first | (with_reducible exact Below.refl _ _) | (with_reducible assumption) | (with_reducible exact Hid.out (by with_reducible assumption)) | (with_reducible refine Below.alloc ?_ ?_ _) | (with_reducible refine Below.setCell ?_ ?_ _) | (with_reducible refine below_drewN ?_ _) | (with_reducible refine Below.drew ?_) | (with_reducible refine below_via (by with_reducible assumption) ?_ ?_) | (first | (with_reducible assumption) | omega | (simp only [World.size_alloc, World.size_setCell, World.size_drew, World.heap_drewN] <;> omega) | (simp <;> omega))))
  obtain ⟨ma, mc, rfl, i1, -, -, -, -⟩ := row_of_owns o1
  obtain ⟨ca', cc', rfl, i2, -, -, -, -⟩ := row_of_owns o2
  have I1 := Lib.hid (fun W (hb : Below w3.heap.size w3 W) => i1.below hb)
  have I2 := Lib.hid (fun W (hb : Below w3.heap.size w3 W) => i2.below hb)
  clear o1 o2 i1 i2 hb1 hb2 hb3
  have hx : Below w3.heap.size w3 (w3.alloc (.cells #[.int .i64 L, .slice ma bm.length mc, .slice ca' bc.length cc'] 31)) := (Below.refl _ _).alloc (Nat.le_refl _) _
  go_wp2_with fail
  refine (NX.out _ (by (repeat (first | (with_reducible exact Below.refl _ _) | (with_reducible assumption) | (with_reducible exact Hid.out (by with_reducible assumption)) | (with_reducible refine Below.alloc ?_ ?_ _) | (with_reducible refine Below.setCell ?_ ?_ _) | (with_reducible refine below_drewN ?_ _) | (with_reducible refine Below.drew ?_) | (with_reducible refine below_via (by with_reducible assumption) ?_ ?_) | (first | (with_reducible assumption) | omega | (simp only [World.size_alloc, World.size_setCell, World.size_drew, World.heap_drewN] <;> omega) | (simp <;> omega)))))).mono ?_
  rintro e w4 ⟨rfl, hb4⟩
  have hz_w4 := hb4.size
  try simp only [World.size_alloc, World.size_setCell] at hz_w4
  have all_c : w4.cell? ⟨w.heap.size, 0, none⟩ = some (.int .i64 seg) ∧ w4.cell? ⟨w.heap.size, 1, none⟩ = some (.slice wa lw wc) ∧ w4.cell? ⟨w.heap.size, 2, none⟩ = some (.slice ka lk kc) ∧ w4.cell? ⟨w.heap.size, 3, none⟩ = some (.slice va lv vc) ∧ w4.cell? ⟨w.heap.size, 4, none⟩ = some (.slice ca lc cc) ∧ w4.cell? ⟨w.heap.size, 5, none⟩ = some (.int .u64 laid) ∧ w4.cell? ⟨w3.heap.size, 0, none⟩ = some (.int .i64 L) ∧ w4.cell? ⟨w3.heap.size, 1, none⟩ = some (.slice ma bm.length mc) ∧ w4.cell? ⟨w3.heap.size, 2, none⟩ = some (.slice ca' bc.length cc') := by refine ⟨?_, ?_, ?_, ?_, ?_, ?_, ?_, ?_, ?_⟩ <;> (refine (hb4.cell ?_).trans ?_ <;> first | (first | (with_reducible assumption) | omega | (simp only [World.size_alloc, World.size_setCell, World.size_drew, World.heap_drewN] <;> omega) | (simp <;> omega)) | (first | (with_reducible assumption) | ((try simp (disch := first | omega | (simp only [World.size_alloc, World.size_setCell, World.size_drew, World.heap_drewN] <;> omega) | fail) only [World.cell?_alloc_past, World.cell?_alloc_at, World.frozen?_alloc_past, World.frozen?_alloc_at, World.frozen?_setCell, World.cell?_drew, World.frozen?_drew]) <;> first | (with_reducible assumption) | rfl)))
  have all_z : w.heap.size < w4.heap.size ∧ w3.heap.size < w4.heap.size := by refine ⟨?_, ?_⟩ <;> (omega)
  clear c_s0 c_s1 c_s2 c_s3 c_s4 c_s5 z_s
  obtain ⟨c_s0, c_s1, c_s2, c_s3, c_s4, c_s5, c_x0, c_x1, c_x2⟩ := all_c
  try clear all_c
  obtain ⟨z_s, z_x⟩ := all_z
  try clear all_z
  have h4 : Below w3.heap.size w3 w4 := below_via hb4 hx (by simp)
  have hB4 : Below w.heap.size w w4 := below_via h4 hB3 (by omega)
  go_wp2_with fail
  refine (HM.out ma ca' mc cc' _ (I1.out _ h4) (I2.out _ h4)).mono ?_
  rintro e w5 ⟨rfl, hb5⟩
  have hz_w5 := hb5.size
  try simp only [World.size_alloc, World.size_setCell] at hz_w5
  have all_c : w5.cell? ⟨w.heap.size, 0, none⟩ = some (.int .i64 seg) ∧ w5.cell? ⟨w.heap.size, 1, none⟩ = some (.slice wa lw wc) ∧ w5.cell? ⟨w.heap.size, 2, none⟩ = some (.slice ka lk kc) ∧ w5.cell? ⟨w.heap.size, 3, none⟩ = some (.slice va lv vc) ∧ w5.cell? ⟨w.heap.size, 4, none⟩ = some (.slice ca lc cc) ∧ w5.cell? ⟨w.heap.size, 5, none⟩ = some (.int .u64 laid) ∧ w5.cell? ⟨w3.heap.size, 0, none⟩ = some (.int .i64 L) ∧ w5.cell? ⟨w3.heap.size, 1, none⟩ = some (.slice ma bm.length mc) ∧ w5.cell? ⟨w3.heap.size, 2, none⟩ = some (.slice ca' bc.length cc') := by refine ⟨?_, ?_, ?_, ?_, ?_, ?_, ?_, ?_, ?_⟩ <;> (refine (hb5.cell ?_).trans ?_ <;> first | (first | (with_reducible assumption) | omega | (simp only [World.size_alloc, World.size_setCell, World.size_drew, World.heap_drewN] <;> omega) | (simp <;> omega)) | (first | (with_reducible assumption) | ((try simp (disch := first | omega | (simp only [World.size_alloc, World.size_setCell, World.size_drew, World.heap_drewN] <;> omega) | fail) only [World.cell?_alloc_past, World.cell?_alloc_at, World.frozen?_alloc_past, World.frozen?_alloc_at, World.frozen?_setCell, World.cell?_drew, World.frozen?_drew]) <;> first | (with_reducible assumption) | rfl)))
  have all_z : w.heap.size < w5.heap.size ∧ w3.heap.size < w5.heap.size := by refine ⟨?_, ?_⟩ <;> (omega)
  clear c_s0 c_s1 c_s2 c_s3 c_s4 c_s5 c_x0 c_x1 c_x2 z_s z_x
  obtain ⟨c_s0, c_s1, c_s2, c_s3, c_s4, c_s5, c_x0, c_x1, c_x2⟩ := all_c
  try clear all_c
  obtain ⟨z_s, z_x⟩ := all_z
  try clear all_z
  have hB5 : Below w.heap.size w w5 := below_via hb5 hB4 (by omega)
  go_wp2
  go_ret
  exact ⟨rfl, hB5⟩

set_option maxRecDepth 100000 in
set_option maxHeartbeats 1000000 in
theorem Hm_none (seg : Int) (wa ka va ca : Option Addr) (wc kc vc cc lw lk lv lc : Nat) (laid key L t : Int) (bm bc : List Int) (w : World)
    (AL : Hid (∀ W, Calls Tryd.prog 4 #[] W (AnsB W (.bool true))))
    (GR : Hid (∀ W, Calls Tryd.prog 5 #[.agg #[.int .i64 seg, .slice wa lw wc, .slice ka lk kc, .slice va lv vc, .slice ca lc cc, .int .u64 laid], .int .i64 600] W (AnsB W (.bool false))))
    (BI : Hid (∀ W, Below w.heap.size w W → Calls Tryd.prog 6 #[.agg #[.int .i64 seg, .slice wa lw wc, .slice ka lk kc, .slice va lv vc, .slice ca lc cc, .int .u64 laid]] W (FreshIx2 W L bm bc (.int .i64 0))))
    (NX : Hid (∀ W, Below w.heap.size w W → Calls Tryd.prog 7 #[.agg #[.int .i64 seg, .slice wa lw wc, .slice ka lk kc, .slice va lv vc, .slice ca lc cc, .int .u64 laid], .int .i64 key] W (AnsB W (.tuple #[.int .i64 t, .int .i64 6]))))
    (HM : Hid (∀ xa xb xc xd W, IsRow .i64 W xa bm → IsRow .i64 W xb bc → Calls Tryd.prog 8 #[ixV L xa bm.length xc xb bc.length xd, .int .i64 key] W (AnsB W (.tuple #[.int .i64 0, .int .i64 0, .int .i64 6])))) :
    Calls Tryd.prog 3 #[.agg #[.int .i64 seg, .slice wa lw wc, .slice ka lk kc, .slice va lv vc, .slice ca lc cc, .int .u64 laid], .int .i64 key] w (AnsB w (.bool true)) := by
  go_enter Tryd.func3, Tryd.ntmps3
  go_wp2_with fail
  refine (AL.out _).mono ?_
  rintro e w1 ⟨rfl, hb1⟩
  have hz_w1 := hb1.size
  try simp only [World.size_alloc, World.size_setCell] at hz_w1
  have all_c : w1.cell? ⟨w.heap.size, 0, none⟩ = some (.int .i64 seg) ∧ w1.cell? ⟨w.heap.size, 1, none⟩ = some (.slice wa lw wc) ∧ w1.cell? ⟨w.heap.size, 2, none⟩ = some (.slice ka lk kc) ∧ w1.cell? ⟨w.heap.size, 3, none⟩ = some (.slice va lv vc) ∧ w1.cell? ⟨w.heap.size, 4, none⟩ = some (.slice ca lc cc) ∧ w1.cell? ⟨w.heap.size, 5, none⟩ = some (.int .u64 laid) := by refine ⟨?_, ?_, ?_, ?_, ?_, ?_⟩ <;> (refine (hb1.cell ?_).trans ?_ <;> first | (first | (with_reducible assumption) | omega | (simp only [World.size_alloc, World.size_setCell, World.size_drew, World.heap_drewN] <;> omega) | (simp <;> omega)) | (first | (with_reducible assumption) | ((try simp (disch := first | omega | (simp only [World.size_alloc, World.size_setCell, World.size_drew, World.heap_drewN] <;> omega) | fail) only [World.cell?_alloc_past, World.cell?_alloc_at, World.frozen?_alloc_past, World.frozen?_alloc_at, World.frozen?_setCell, World.cell?_drew, World.frozen?_drew]) <;> first | (with_reducible assumption) | rfl)))
  have all_z : w.heap.size < w1.heap.size := by omega
  obtain ⟨c_s0, c_s1, c_s2, c_s3, c_s4, c_s5⟩ := all_c
  try clear all_c
  have z_s := all_z
  try clear all_z
  have hB1 : Below w.heap.size w w1 := by (repeat (first | (with_reducible exact Below.refl _ _) | (with_reducible assumption) | (with_reducible exact Hid.out (by with_reducible assumption)) | (with_reducible refine Below.alloc ?_ ?_ _) | (with_reducible refine Below.setCell ?_ ?_ _) | (with_reducible refine below_drewN ?_ _) | (with_reducible refine Below.drew ?_) | (with_reducible refine below_via (by with_reducible assumption) ?_ ?_) | (first | (with_reducible assumption) | omega | (simp only [World.size_alloc, World.size_setCell, World.size_drew, World.heap_drewN] <;> omega) | (simp <;> omega))))
  go_wp2_with fail
  refine (GR.out _).mono ?_
  rintro e w2 ⟨rfl, hb2⟩
  have hz_w2 := hb2.size
  try simp only [World.size_alloc, World.size_setCell] at hz_w2
  have all_c : w2.cell? ⟨w.heap.size, 0, none⟩ = some (.int .i64 seg) ∧ w2.cell? ⟨w.heap.size, 1, none⟩ = some (.slice wa lw wc) ∧ w2.cell? ⟨w.heap.size, 2, none⟩ = some (.slice ka lk kc) ∧ w2.cell? ⟨w.heap.size, 3, none⟩ = some (.slice va lv vc) ∧ w2.cell? ⟨w.heap.size, 4, none⟩ = some (.slice ca lc cc) ∧ w2.cell? ⟨w.heap.size, 5, none⟩ = some (.int .u64 laid) := by refine ⟨?_, ?_, ?_, ?_, ?_, ?_⟩ <;> (refine (hb2.cell ?_).trans ?_ <;> first | (first | (with_reducible assumption) | omega | (simp only [World.size_alloc, World.size_setCell, World.size_drew, World.heap_drewN] <;> omega) | (simp <;> omega)) | (first | (with_reducible assumption) | ((try simp (disch := first | omega | (simp only [World.size_alloc, World.size_setCell, World.size_drew, World.heap_drewN] <;> omega) | fail) only [World.cell?_alloc_past, World.cell?_alloc_at, World.frozen?_alloc_past, World.frozen?_alloc_at, World.frozen?_setCell, World.cell?_drew, World.frozen?_drew]) <;> first | (with_reducible assumption) | rfl)))
  have all_z : w.heap.size < w2.heap.size := by omega
  clear c_s0 c_s1 c_s2 c_s3 c_s4 c_s5 z_s
  obtain ⟨c_s0, c_s1, c_s2, c_s3, c_s4, c_s5⟩ := all_c
  try clear all_c
  have z_s := all_z
  try clear all_z
  have hB2 : Below w.heap.size w w2 := by (repeat (first | (with_reducible exact Below.refl _ _) | (with_reducible assumption) | (with_reducible exact Hid.out (by with_reducible assumption)) | (with_reducible refine Below.alloc ?_ ?_ _) | (with_reducible refine Below.setCell ?_ ?_ _) | (with_reducible refine below_drewN ?_ _) | (with_reducible refine Below.drew ?_) | (with_reducible refine below_via (by with_reducible assumption) ?_ ?_) | (first | (with_reducible assumption) | omega | (simp only [World.size_alloc, World.size_setCell, World.size_drew, World.heap_drewN] <;> omega) | (simp <;> omega))))
  go_wp2_with fail
  refine (BI.out _ hB2).mono ?_
  rintro e w3 ⟨v, u, rfl, o1, o2, hb3⟩
  have hz_w3 := hb3.size
  try simp only [World.size_alloc, World.size_setCell] at hz_w3
  have all_c : w3.cell? ⟨w.heap.size, 0, none⟩ = some (.int .i64 seg) ∧ w3.cell? ⟨w.heap.size, 1, none⟩ = some (.slice wa lw wc) ∧ w3.cell? ⟨w.heap.size, 2, none⟩ = some (.slice ka lk kc) ∧ w3.cell? ⟨w.heap.size, 3, none⟩ = some (.slice va lv vc) ∧ w3.cell? ⟨w.heap.size, 4, none⟩ = some (.slice ca lc cc) ∧ w3.cell? ⟨w.heap.size, 5, none⟩ = some (.int .u64 laid) := by refine ⟨?_, ?_, ?_, ?_, ?_, ?_⟩ <;> (refine (hb3.cell ?_).trans ?_ <;> first | (first | (with_reducible assumption) | omega | (simp only [World.size_alloc, World.size_setCell, World.size_drew, World.heap_drewN] <;> omega) | (simp <;> omega)) | (first | (with_reducible assumption) | ((try simp (disch := first | omega | (simp only [World.size_alloc, World.size_setCell, World.size_drew, World.heap_drewN] <;> omega) | fail) only [World.cell?_alloc_past, World.cell?_alloc_at, World.frozen?_alloc_past, World.frozen?_alloc_at, World.frozen?_setCell, World.cell?_drew, World.frozen?_drew]) <;> first | (with_reducible assumption) | rfl)))
  have all_z : w.heap.size < w3.heap.size := by omega
  clear c_s0 c_s1 c_s2 c_s3 c_s4 c_s5 z_s
  obtain ⟨c_s0, c_s1, c_s2, c_s3, c_s4, c_s5⟩ := all_c
  try clear all_c
  have z_s := all_z
  try clear all_z
  have hB3 : Below w.heap.size w w3 := by (repeat (first | (with_reducible exact Below.refl _ _) | (with_reducible assumption) | (with_reducible exact Hid.out (by with_reducible assumption)) | (with_reducible refine Below.alloc ?_ ?_ _) | (with_reducible refine Below.setCell ?_ ?_ _) | (with_reducible refine below_drewN ?_ _) | (with_reducible refine Below.drew ?_) | (with_reducible refine below_via (by with_reducible assumption) ?_ ?_) | (first | (with_reducible assumption) | omega | (simp only [World.size_alloc, World.size_setCell, World.size_drew, World.heap_drewN] <;> omega) | (simp <;> omega))))
  obtain ⟨ma, mc, rfl, i1, -, -, -, -⟩ := row_of_owns o1
  obtain ⟨ca', cc', rfl, i2, -, -, -, -⟩ := row_of_owns o2
  have I1 := Lib.hid (fun W (hb : Below w3.heap.size w3 W) => i1.below hb)
  have I2 := Lib.hid (fun W (hb : Below w3.heap.size w3 W) => i2.below hb)
  clear o1 o2 i1 i2 hb1 hb2 hb3
  have hx : Below w3.heap.size w3 (w3.alloc (.cells #[.int .i64 L, .slice ma bm.length mc, .slice ca' bc.length cc'] 31)) := (Below.refl _ _).alloc (Nat.le_refl _) _
  go_wp2_with fail
  refine (NX.out _ (by (repeat (first | (with_reducible exact Below.refl _ _) | (with_reducible assumption) | (with_reducible exact Hid.out (by with_reducible assumption)) | (with_reducible refine Below.alloc ?_ ?_ _) | (with_reducible refine Below.setCell ?_ ?_ _) | (with_reducible refine below_drewN ?_ _) | (with_reducible refine Below.drew ?_) | (with_reducible refine below_via (by with_reducible assumption) ?_ ?_) | (first | (with_reducible assumption) | omega | (simp only [World.size_alloc, World.size_setCell, World.size_drew, World.heap_drewN] <;> omega) | (simp <;> omega)))))).mono ?_
  rintro e w4 ⟨rfl, hb4⟩
  have hz_w4 := hb4.size
  try simp only [World.size_alloc, World.size_setCell] at hz_w4
  have all_c : w4.cell? ⟨w.heap.size, 0, none⟩ = some (.int .i64 seg) ∧ w4.cell? ⟨w.heap.size, 1, none⟩ = some (.slice wa lw wc) ∧ w4.cell? ⟨w.heap.size, 2, none⟩ = some (.slice ka lk kc) ∧ w4.cell? ⟨w.heap.size, 3, none⟩ = some (.slice va lv vc) ∧ w4.cell? ⟨w.heap.size, 4, none⟩ = some (.slice ca lc cc) ∧ w4.cell? ⟨w.heap.size, 5, none⟩ = some (.int .u64 laid) ∧ w4.cell? ⟨w3.heap.size, 0, none⟩ = some (.int .i64 L) ∧ w4.cell? ⟨w3.heap.size, 1, none⟩ = some (.slice ma bm.length mc) ∧ w4.cell? ⟨w3.heap.size, 2, none⟩ = some (.slice ca' bc.length cc') := by refine ⟨?_, ?_, ?_, ?_, ?_, ?_, ?_, ?_, ?_⟩ <;> (refine (hb4.cell ?_).trans ?_ <;> first | (first | (with_reducible assumption) | omega | (simp only [World.size_alloc, World.size_setCell, World.size_drew, World.heap_drewN] <;> omega) | (simp <;> omega)) | (first | (with_reducible assumption) | ((try simp (disch := first | omega | (simp only [World.size_alloc, World.size_setCell, World.size_drew, World.heap_drewN] <;> omega) | fail) only [World.cell?_alloc_past, World.cell?_alloc_at, World.frozen?_alloc_past, World.frozen?_alloc_at, World.frozen?_setCell, World.cell?_drew, World.frozen?_drew]) <;> first | (with_reducible assumption) | rfl)))
  have all_z : w.heap.size < w4.heap.size ∧ w3.heap.size < w4.heap.size := by refine ⟨?_, ?_⟩ <;> (omega)
  clear c_s0 c_s1 c_s2 c_s3 c_s4 c_s5 z_s
  obtain ⟨c_s0, c_s1, c_s2, c_s3, c_s4, c_s5, c_x0, c_x1, c_x2⟩ := all_c
  try clear all_c
  obtain ⟨z_s, z_x⟩ := all_z
  try clear all_z
  have h4 : Below w3.heap.size w3 w4 := below_via hb4 hx (by simp)
  have hB4 : Below w.heap.size w w4 := below_via h4 hB3 (by omega)
  go_wp2_with fail
  refine (HM.out ma ca' mc cc' _ (I1.out _ h4) (I2.out _ h4)).mono ?_
  rintro e w5 ⟨rfl, hb5⟩
  have hz_w5 := hb5.size
  try simp only [World.size_alloc, World.size_setCell] at hz_w5
  have all_c : w5.cell? ⟨w.heap.size, 0, none⟩ = some (.int .i64 seg) ∧ w5.cell? ⟨w.heap.size, 1, none⟩ = some (.slice wa lw wc) ∧ w5.cell? ⟨w.heap.size, 2, none⟩ = some (.slice ka lk kc) ∧ w5.cell? ⟨w.heap.size, 3, none⟩ = some (.slice va lv vc) ∧ w5.cell? ⟨w.heap.size, 4, none⟩ = some (.slice ca lc cc) ∧ w5.cell? ⟨w.heap.size, 5, none⟩ = some (.int .u64 laid) ∧ w5.cell? ⟨w3.heap.size, 0, none⟩ = some (.int .i64 L) ∧ w5.cell? ⟨w3.heap.size, 1, none⟩ = some (.slice ma bm.length mc) ∧ w5.cell? ⟨w3.heap.size, 2, none⟩ = some (.slice ca' bc.length cc') := by refine ⟨?_, ?_, ?_, ?_, ?_, ?_, ?_, ?_, ?_⟩ <;> (refine (hb5.cell ?_).trans ?_ <;> first | (first | (with_reducible assumption) | omega | (simp only [World.size_alloc, World.size_setCell, World.size_drew, World.heap_drewN] <;> omega) | (simp <;> omega)) | (first | (with_reducible assumption) | ((try simp (disch := first | omega | (simp only [World.size_alloc, World.size_setCell, World.size_drew, World.heap_drewN] <;> omega) | fail) only [World.cell?_alloc_past, World.cell?_alloc_at, World.frozen?_alloc_past, World.frozen?_alloc_at, World.frozen?_setCell, World.cell?_drew, World.frozen?_drew]) <;> first | (with_reducible assumption) | rfl)))
  have all_z : w.heap.size < w5.heap.size ∧ w3.heap.size < w5.heap.size := by refine ⟨?_, ?_⟩ <;> (omega)
  clear c_s0 c_s1 c_s2 c_s3 c_s4 c_s5 c_x0 c_x1 c_x2 z_s z_x
  obtain ⟨c_s0, c_s1, c_s2, c_s3, c_s4, c_s5, c_x0, c_x1, c_x2⟩ := all_c
  try clear all_c
  obtain ⟨z_s, z_x⟩ := all_z
  try clear all_z
  have hB5 : Below w.heap.size w w5 := below_via hb5 hB4 (by omega)
  go_wp2
  go_ret
  exact ⟨rfl, hB5⟩

set_option maxRecDepth 100000 in
set_option maxHeartbeats 1000000 in
theorem Hm_yes (S r q PQ : Nat) (wa ka va ca : Option Addr) (wc kc vc cc lw lk lv lc : Nat) (laid key L cn : Int) (bm bc : List Int) (h4 : 4 ≤ S) (hr : r ≤ 65536) (hq : r / S = q) (hP : q * S = PQ) (hPQ : PQ ≤ 65536) (w : World)
    (AL : Hid (∀ W, Calls Tryd.prog 4 #[] W (AnsB W (.bool true))))
    (GR : Hid (∀ W, Calls Tryd.prog 5 #[.agg #[.int .i64 S, .slice wa lw wc, .slice ka lk kc, .slice va lv vc, .slice ca lc cc, .int .u64 laid], .int .i64 600] W (AnsB W (.bool false))))
    (BI : Hid (∀ W, Below w.heap.size w W → Calls Tryd.prog 6 #[.agg #[.int .i64 S, .slice wa lw wc, .slice ka lk kc, .slice va lv vc, .slice ca lc cc, .int .u64 laid]] W (FreshIx2 W L bm bc (.int .i64 0))))
    (NX : Hid (∀ W, Below w.heap.size w W → Calls Tryd.prog 7 #[.agg #[.int .i64 S, .slice wa lw wc, .slice ka lk kc, .slice va lv vc, .slice ca lc cc, .int .u64 laid], .int .i64 key] W (AnsB W (.tuple #[.int .i64 (r : Nat), .int .i64 0]))))
    (HM : Hid (∀ xa xb xc xd W, IsRow .i64 W xa bm → IsRow .i64 W xb bc → Calls Tryd.prog 8 #[ixV L xa bm.length xc xb bc.length xd, .int .i64 key] W (AnsB W (.tuple #[.int .i64 (q : Nat), .int .i64 cn, .int .i64 0]))))
    (CN : Hid (∀ W, Below w.heap.size w W → Calls Tryd.prog 9 #[.slice wa lw wc, .int .i64 (lk : Nat), .int .i64 0, .int .i64 (PQ : Nat)] W (AnsB W (.tuple #[.int .i64 cn, .int .i64 0])))) :
    Calls Tryd.prog 3 #[.agg #[.int .i64 S, .slice wa lw wc, .slice ka lk kc, .slice va lv vc, .slice ca lc cc, .int .u64 laid], .int .i64 key] w (AnsB w (.bool true)) := by
  have g3 : decide ((S : Int) < 1) = false := by simp; omega
  have g4 : ((S : Int) == 0) = false := by simp; omega
  have g5 : (r : Int).tdiv S = q := by rw [Int.tdiv_eq_ediv_of_nonneg (by omega), ← hq]; rfl
  have g6 : (r : Int) / S = q := by rw [← hq]; rfl
  have hq8 : (q : Int) ≤ 65536 := by have := Nat.div_le_self r S; omega
  have hwq : IntKind.i64.wrap (q : Int) = q := IntWalk.i64_in _ (by omega)
  have g7 : (q : Int) * (S : Int) = (PQ : Int) := by rw [← hP]; push_cast; rfl
  have g8 : IntKind.i64.wrap ((q : Int) * (S : Int)) = (PQ : Int) := by rw [g7]; exact IntWalk.i64_in _ (by omega)
  have g9 : wrap64 ((q : Int) * (S : Int)) = (PQ : Int) := by rw [g7]; unfold wrap64; omega
  have g10 : (cn == cn) = true := by simp
  have g11 : ((q : Int) == q) = true := by simp
  clear hq hP
  go_enter Tryd.func3, Tryd.ntmps3
  go_wp2_with fail
  refine (AL.out _).mono ?_
  rintro e w1 ⟨rfl, hb1⟩
  have hz_w1 := hb1.size
  try simp only [World.size_alloc, World.size_setCell] at hz_w1
  have all_c : w1.cell? ⟨w.heap.size, 0, none⟩ = some (.int .i64 S) ∧ w1.cell? ⟨w.heap.size, 1, none⟩ = some (.slice wa lw wc) ∧ w1.cell? ⟨w.heap.size, 2, none⟩ = some (.slice ka lk kc) ∧ w1.cell? ⟨w.heap.size, 3, none⟩ = some (.slice va lv vc) ∧ w1.cell? ⟨w.heap.size, 4, none⟩ = some (.slice ca lc cc) ∧ w1.cell? ⟨w.heap.size, 5, none⟩ = some (.int .u64 laid) := by refine ⟨?_, ?_, ?_, ?_, ?_, ?_⟩ <;> (refine (hb1.cell ?_).trans ?_ <;> first | (first | (with_reducible assumption) | omega | (simp only [World.size_alloc, World.size_setCell, World.size_drew, World.heap_drewN] <;> omega) | (simp <;> omega)) | (first | (with_reducible assumption) | ((try simp (disch := first | omega | (simp only [World.size_alloc, World.size_setCell, World.size_drew, World.heap_drewN] <;> omega) | fail) only [World.cell?_alloc_past, World.cell?_alloc_at, World.frozen?_alloc_past, World.frozen?_alloc_at, World.frozen?_setCell, World.cell?_drew, World.frozen?_drew]) <;> first | (with_reducible assumption) | rfl)))
  have all_z : w.heap.size < w1.heap.size := by omega
  obtain ⟨c_s0, c_s1, c_s2, c_s3, c_s4, c_s5⟩ := all_c
  try clear all_c
  have z_s := all_z
  try clear all_z
  have hB1 : Below w.heap.size w w1 := by (repeat (first | (with_reducible exact Below.refl _ _) | (with_reducible assumption) | (with_reducible exact Hid.out (by with_reducible assumption)) | (with_reducible refine Below.alloc ?_ ?_ _) | (with_reducible refine Below.setCell ?_ ?_ _) | (with_reducible refine below_drewN ?_ _) | (with_reducible refine Below.drew ?_) | (with_reducible refine below_via (by with_reducible assumption) ?_ ?_) | (first | (with_reducible assumption) | omega | (simp only [World.size_alloc, World.size_setCell, World.size_drew, World.heap_drewN] <;> omega) | (simp <;> omega))))
  go_wp2_with fail
  refine (GR.out _).mono ?_
  rintro e w2 ⟨rfl, hb2⟩
  have hz_w2 := hb2.size
  try simp only [World.size_alloc, World.size_setCell] at hz_w2
  have all_c : w2.cell? ⟨w.heap.size, 0, none⟩ = some (.int .i64 S) ∧ w2.cell? ⟨w.heap.size, 1, none⟩ = some (.slice wa lw wc) ∧ w2.cell? ⟨w.heap.size, 2, none⟩ = some (.slice ka lk kc) ∧ w2.cell? ⟨w.heap.size, 3, none⟩ = some (.slice va lv vc) ∧ w2.cell? ⟨w.heap.size, 4, none⟩ = some (.slice ca lc cc) ∧ w2.cell? ⟨w.heap.size, 5, none⟩ = some (.int .u64 laid) := by refine ⟨?_, ?_, ?_, ?_, ?_, ?_⟩ <;> (refine (hb2.cell ?_).trans ?_ <;> first | (first | (with_reducible assumption) | omega | (simp only [World.size_alloc, World.size_setCell, World.size_drew, World.heap_drewN] <;> omega) | (simp <;> omega)) | (first | (with_reducible assumption) | ((try simp (disch := first | omega | (simp only [World.size_alloc, World.size_setCell, World.size_drew, World.heap_drewN] <;> omega) | fail) only [World.cell?_alloc_past, World.cell?_alloc_at, World.frozen?_alloc_past, World.frozen?_alloc_at, World.frozen?_setCell, World.cell?_drew, World.frozen?_drew]) <;> first | (with_reducible assumption) | rfl)))
  have all_z : w.heap.size < w2.heap.size := by omega
  clear c_s0 c_s1 c_s2 c_s3 c_s4 c_s5 z_s
  obtain ⟨c_s0, c_s1, c_s2, c_s3, c_s4, c_s5⟩ := all_c
  try clear all_c
  have z_s := all_z
  try clear all_z
  have hB2 : Below w.heap.size w w2 := by (repeat (first | (with_reducible exact Below.refl _ _) | (with_reducible assumption) | (with_reducible exact Hid.out (by with_reducible assumption)) | (with_reducible refine Below.alloc ?_ ?_ _) | (with_reducible refine Below.setCell ?_ ?_ _) | (with_reducible refine below_drewN ?_ _) | (with_reducible refine Below.drew ?_) | (with_reducible refine below_via (by with_reducible assumption) ?_ ?_) | (first | (with_reducible assumption) | omega | (simp only [World.size_alloc, World.size_setCell, World.size_drew, World.heap_drewN] <;> omega) | (simp <;> omega))))
  go_wp2_with fail
  refine (BI.out _ hB2).mono ?_
  rintro e w3 ⟨v, u, rfl, o1, o2, hb3⟩
  have hz_w3 := hb3.size
  try simp only [World.size_alloc, World.size_setCell] at hz_w3
  have all_c : w3.cell? ⟨w.heap.size, 0, none⟩ = some (.int .i64 S) ∧ w3.cell? ⟨w.heap.size, 1, none⟩ = some (.slice wa lw wc) ∧ w3.cell? ⟨w.heap.size, 2, none⟩ = some (.slice ka lk kc) ∧ w3.cell? ⟨w.heap.size, 3, none⟩ = some (.slice va lv vc) ∧ w3.cell? ⟨w.heap.size, 4, none⟩ = some (.slice ca lc cc) ∧ w3.cell? ⟨w.heap.size, 5, none⟩ = some (.int .u64 laid) := by refine ⟨?_, ?_, ?_, ?_, ?_, ?_⟩ <;> (refine (hb3.cell ?_).trans ?_ <;> first | (first | (with_reducible assumption) | omega | (simp only [World.size_alloc, World.size_setCell, World.size_drew, World.heap_drewN] <;> omega) | (simp <;> omega)) | (first | (with_reducible assumption) | ((try simp (disch := first | omega | (simp only [World.size_alloc, World.size_setCell, World.size_drew, World.heap_drewN] <;> omega) | fail) only [World.cell?_alloc_past, World.cell?_alloc_at, World.frozen?_alloc_past, World.frozen?_alloc_at, World.frozen?_setCell, World.cell?_drew, World.frozen?_drew]) <;> first | (with_reducible assumption) | rfl)))
  have all_z : w.heap.size < w3.heap.size := by omega
  clear c_s0 c_s1 c_s2 c_s3 c_s4 c_s5 z_s
  obtain ⟨c_s0, c_s1, c_s2, c_s3, c_s4, c_s5⟩ := all_c
  try clear all_c
  have z_s := all_z
  try clear all_z
  have hB3 : Below w.heap.size w w3 := by (repeat (first | (with_reducible exact Below.refl _ _) | (with_reducible assumption) | (with_reducible exact Hid.out (by with_reducible assumption)) | (with_reducible refine Below.alloc ?_ ?_ _) | (with_reducible refine Below.setCell ?_ ?_ _) | (with_reducible refine below_drewN ?_ _) | (with_reducible refine Below.drew ?_) | (with_reducible refine below_via (by with_reducible assumption) ?_ ?_) | (first | (with_reducible assumption) | omega | (simp only [World.size_alloc, World.size_setCell, World.size_drew, World.heap_drewN] <;> omega) | (simp <;> omega))))
  obtain ⟨ma, mc, rfl, i1, -, -, -, -⟩ := row_of_owns o1
  obtain ⟨ca', cc', rfl, i2, -, -, -, -⟩ := row_of_owns o2
  have I1 := Lib.hid (fun W (hb : Below w3.heap.size w3 W) => i1.below hb)
  have I2 := Lib.hid (fun W (hb : Below w3.heap.size w3 W) => i2.below hb)
  clear o1 o2 i1 i2 hb1 hb2 hb3
  have hx : Below w3.heap.size w3 (w3.alloc (.cells #[.int .i64 L, .slice ma bm.length mc, .slice ca' bc.length cc'] 31)) := (Below.refl _ _).alloc (Nat.le_refl _) _
  go_wp2_with fail
  refine (NX.out _ (by (repeat (first | (with_reducible exact Below.refl _ _) | (with_reducible assumption) | (with_reducible exact Hid.out (by with_reducible assumption)) | (with_reducible refine Below.alloc ?_ ?_ _) | (with_reducible refine Below.setCell ?_ ?_ _) | (with_reducible refine below_drewN ?_ _) | (with_reducible refine Below.drew ?_) | (with_reducible refine below_via (by with_reducible assumption) ?_ ?_) | (first | (with_reducible assumption) | omega | (simp only [World.size_alloc, World.size_setCell, World.size_drew, World.heap_drewN] <;> omega) | (simp <;> omega)))))).mono ?_
  rintro e w4 ⟨rfl, hb4⟩
  have hz_w4 := hb4.size
  try simp only [World.size_alloc, World.size_setCell] at hz_w4
  have all_c : w4.cell? ⟨w.heap.size, 0, none⟩ = some (.int .i64 S) ∧ w4.cell? ⟨w.heap.size, 1, none⟩ = some (.slice wa lw wc) ∧ w4.cell? ⟨w.heap.size, 2, none⟩ = some (.slice ka lk kc) ∧ w4.cell? ⟨w.heap.size, 3, none⟩ = some (.slice va lv vc) ∧ w4.cell? ⟨w.heap.size, 4, none⟩ = some (.slice ca lc cc) ∧ w4.cell? ⟨w.heap.size, 5, none⟩ = some (.int .u64 laid) ∧ w4.cell? ⟨w3.heap.size, 0, none⟩ = some (.int .i64 L) ∧ w4.cell? ⟨w3.heap.size, 1, none⟩ = some (.slice ma bm.length mc) ∧ w4.cell? ⟨w3.heap.size, 2, none⟩ = some (.slice ca' bc.length cc') := by refine ⟨?_, ?_, ?_, ?_, ?_, ?_, ?_, ?_, ?_⟩ <;> (refine (hb4.cell ?_).trans ?_ <;> first | (first | (with_reducible assumption) | omega | (simp only [World.size_alloc, World.size_setCell, World.size_drew, World.heap_drewN] <;> omega) | (simp <;> omega)) | (first | (with_reducible assumption) | ((try simp (disch := first | omega | (simp only [World.size_alloc, World.size_setCell, World.size_drew, World.heap_drewN] <;> omega) | fail) only [World.cell?_alloc_past, World.cell?_alloc_at, World.frozen?_alloc_past, World.frozen?_alloc_at, World.frozen?_setCell, World.cell?_drew, World.frozen?_drew]) <;> first | (with_reducible assumption) | rfl)))
  have all_z : w.heap.size < w4.heap.size ∧ w3.heap.size < w4.heap.size := by refine ⟨?_, ?_⟩ <;> (omega)
  clear c_s0 c_s1 c_s2 c_s3 c_s4 c_s5 z_s
  obtain ⟨c_s0, c_s1, c_s2, c_s3, c_s4, c_s5, c_x0, c_x1, c_x2⟩ := all_c
  try clear all_c
  obtain ⟨z_s, z_x⟩ := all_z
  try clear all_z
  have h44 : Below w3.heap.size w3 w4 := below_via hb4 hx (by simp)
  have hB4 : Below w.heap.size w w4 := below_via h44 hB3 (by omega)
  go_wp2_with fail
  refine (HM.out ma ca' mc cc' _ (I1.out _ h44) (I2.out _ h44)).mono ?_
  rintro e w5 ⟨rfl, hb5⟩
  have hz_w5 := hb5.size
  try simp only [World.size_alloc, World.size_setCell] at hz_w5
  have all_c : w5.cell? ⟨w.heap.size, 0, none⟩ = some (.int .i64 S) ∧ w5.cell? ⟨w.heap.size, 1, none⟩ = some (.slice wa lw wc) ∧ w5.cell? ⟨w.heap.size, 2, none⟩ = some (.slice ka lk kc) ∧ w5.cell? ⟨w.heap.size, 3, none⟩ = some (.slice va lv vc) ∧ w5.cell? ⟨w.heap.size, 4, none⟩ = some (.slice ca lc cc) ∧ w5.cell? ⟨w.heap.size, 5, none⟩ = some (.int .u64 laid) ∧ w5.cell? ⟨w3.heap.size, 0, none⟩ = some (.int .i64 L) ∧ w5.cell? ⟨w3.heap.size, 1, none⟩ = some (.slice ma bm.length mc) ∧ w5.cell? ⟨w3.heap.size, 2, none⟩ = some (.slice ca' bc.length cc') := by refine ⟨?_, ?_, ?_, ?_, ?_, ?_, ?_, ?_, ?_⟩ <;> (refine (hb5.cell ?_).trans ?_ <;> first | (first | (with_reducible assumption) | omega | (simp only [World.size_alloc, World.size_setCell, World.size_drew, World.heap_drewN] <;> omega) | (simp <;> omega)) | (first | (with_reducible assumption) | ((try simp (disch := first | omega | (simp only [World.size_alloc, World.size_setCell, World.size_drew, World.heap_drewN] <;> omega) | fail) only [World.cell?_alloc_past, World.cell?_alloc_at, World.frozen?_alloc_past, World.frozen?_alloc_at, World.frozen?_setCell, World.cell?_drew, World.frozen?_drew]) <;> first | (with_reducible assumption) | rfl)))
  have all_z : w.heap.size < w5.heap.size ∧ w3.heap.size < w5.heap.size := by refine ⟨?_, ?_⟩ <;> (omega)
  clear c_s0 c_s1 c_s2 c_s3 c_s4 c_s5 c_x0 c_x1 c_x2 z_s z_x
  obtain ⟨c_s0, c_s1, c_s2, c_s3, c_s4, c_s5, c_x0, c_x1, c_x2⟩ := all_c
  try clear all_c
  obtain ⟨z_s, z_x⟩ := all_z
  try clear all_z
  have hB5 : Below w.heap.size w w5 := below_via hb5 hB4 (by omega)
  go_upto_region 11 with (fail)
  have K1 := Lib.hid (fun d os => Calls.regrown_of (w := w5) (d := d) (os := os) (CN.out _ (below_via (below_regrown w5 d os) hB5 (by omega))))
  have q0 := cell_regrown c_s0
  have q1 := cell_regrown c_s1
  have q2 := cell_regrown c_s2
  clear CN
  refine wp_region_quiet_below (by kernel_rfl) (by kernel_rfl) ?_
  repeat (go_big_quiet_step (exact K1.out _ _))
  refine wpQuiet_nil ?_
  intro _ hw'
  obtain ⟨⟨dq, osq⟩, hw''⟩ := hw'
  subst hw''
  have hb7 := below_regrown w5 dq osq
  replace q0 := q0 dq osq
  clear q1 q2
  generalize Sort.grow (redrawn w5 dq) osq = w7 at *
  have hB7 : Below w.heap.size w w7 := below_via hb7 hB5 (by omega)
  go_wp2
  go_ret
  exact ⟨by simp, hB7⟩

theorem DownHome_walk (w : World) (sl : SlC) (al : SlA) (hin : SlIn w sl al) (key : Int) (hT : TabAt w) :
    Calls Tryd.prog 3 #[slV sl al, .int .i64 key] w fun e w' => e = .returned (.bool true) ∧ Below w.heap.size w w' := by
  have AL := Lib.hid down_alive
  have GR := Lib.hid (fun w' => Great04_ok sl.seg al.wa al.ka al.va al.ca al.wc al.kc al.vc al.cc sl.ws.length sl.ks.length sl.vs.length sl.cs.length sl.laid 600 w')
  by_cases hg : gr4 600 sl.ks.length sl.vs.length sl.ws.length sl.cs.length = true
  · rw [hg] at GR
    exact Hm_great _ _ _ _ _ _ _ _ _ _ _ _ _ _ key w AL GR
  · have hg0 : gr4 600 sl.ks.length sl.vs.length sl.ws.length sl.cs.length = false := by simpa using hg
    rw [hg0] at GR
    simp only [gr4, Bool.or_eq_false_iff, decide_eq_false_iff_not] at hg0
    have BI := Lib.hid (fun W (hb : Below w.heap.size w W) => BuildIx_ok sl al (by omega) (by omega) W (hin.below hb))
    have NX := Lib.hid (fun W (hb : Below w.heap.size w W) => seekNext_ok sl al key (by omega) (by omega) W (hin.below hb) (hT.below hb))
    have HM := Lib.hid (fun xa xb xc xd W h1 h2 => Home_ix (bldL sl) key xa xb xc xd (bldM sl) (bldC sl) W h1 h2)
    by_cases h0 : bldE sl = 0
    · obtain ⟨k1, k2⟩ := hom_bld h0 key
      have hs := (bldE_seek h0).1
      obtain ⟨S, D, hS, h4, h64, hcs, hD, hk, hSM, -⟩ := leaf_vals h0
      have hle := (frS_is sl.ws sl.ks sl.ks.length key).le
      rw [h0] at BI
      by_cases hr : frS sl.ws sl.ks sl.ks.length key = sl.ks.length
      · have e : nextV sl key = (0, 6) := by rw [nextV, if_pos hs, if_pos hr]
        rw [e] at NX
        rw [k1 hr] at HM
        exact Hm_none _ _ _ _ _ _ _ _ _ _ _ _ _ _ key _ _ _ _ w AL GR BI NX HM
      · have e : nextV sl key = (((frS sl.ws sl.ks sl.ks.length key : Nat) : Int), 0) := by rw [nextV, if_pos hs, if_neg hr]
        have hrn : frS sl.ws sl.ks sl.ks.length key < sl.ks.length := by omega
        rw [e] at NX
        rw [k2 hrn] at HM
        have hS2 : sl.seg.toNat = S := by omega
        rw [hS2] at HM
        obtain ⟨n1, n2, n3⟩ := seek_n hs
        generalize frS sl.ws sl.ks sl.ks.length key = r at *
        have hdm : r / S * S ≤ r := Nat.div_mul_le_self r S
        have CN := Lib.hid (fun W (hb : Below w.heap.size w W) => Count_ok al.wa al.wc sl.ws hin.u sl.ks.length 0 (r / S * S) n1 (by omega) n3 (by omega) (by omega) W (hin.below hb).w)
        obtain ⟨seg, ws, ks, vs, cs, laid⟩ := sl
        dsimp only at hS
        subst hS
        exact Hm_yes S r (r / S) (r / S * S) _ _ _ _ _ _ _ _ _ _ _ _ _ key _ _ _ _ h4 (by dsimp only at *; omega) rfl rfl (by dsimp only at *; omega) w AL GR BI NX HM CN
    · exact Hm_bad _ _ _ _ _ _ _ _ _ _ _ _ _ _ key _ _ _ _ _ _ _ _ _ h0 (if_neg h0) w AL GR BI NX HM
end Go.Proofs.YtfmoghjddfjfmaaDoor
