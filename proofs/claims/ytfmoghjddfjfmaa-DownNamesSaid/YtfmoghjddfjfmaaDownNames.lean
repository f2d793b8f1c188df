/-
  DownNames: the errors' numbers, and more examples.
  No condition.
-/
import Derived.Test.YtfmoghjddfjfmaaDwnA
namespace Go.Proofs.Ytfmoghjddfjfmaa
open Go.RowKit
set_option linter.unusedVariables false
set_option linter.unusedSimpArgs false

set_option maxRecDepth 100000 in
set_option maxHeartbeats 2000000 in
theorem DownNames_in (bm bc : List Int) (w : World)
    (CH : Hid (∀ W, Calls Try.prog 16 #[] W (FreshIx W 3 bm bc)))
    (AL : Hid (∀ W, Calls Try.prog 17 #[] W (AnsB W (.bool true))))
    (N5 : Hid (∀ xa xb xc xd W, IsRow .i64 W xa bm → IsRow .i64 W xb bc → Calls Try.prog 11 #[ixV 3 xa bm.length xc xb bc.length xd, .int .i64 5] W (AnsB W (.tuple #[.int .i64 0, .int .i64 0, .int .i64 290]))))
    (Nm : Hid (∀ xa xb xc xd W, IsRow .i64 W xa bm → IsRow .i64 W xb bc → Calls Try.prog 11 #[ixV 3 xa bm.length xc xb bc.length xd, .int .i64 (-1)] W (AnsB W (.tuple #[.int .i64 0, .int .i64 0, .int .i64 290]))))
    (A4 : Hid (∀ xa xb xc xd W, IsRow .i64 W xa bm → IsRow .i64 W xb bc → Calls Try.prog 13 #[ixV 3 xa bm.length xc xb bc.length xd, .int .i64 4] W (AnsB W (.tuple #[.int .i64 0, .int .i64 2]))))
    (Am : Hid (∀ xa xb xc xd W, IsRow .i64 W xa bm → IsRow .i64 W xb bc → Calls Try.prog 13 #[ixV 3 xa bm.length xc xb bc.length xd, .int .i64 (-1)] W (AnsB W (.tuple #[.int .i64 0, .int .i64 2]))))
    (O1 : Hid (∀ xa xb xc xd W, IsRow .i64 W xa [0] → IsRow .i64 W xb [0] → Calls Try.prog 9 #[ixV 1 xa 1 xc xb 1 xd, .int .i64 (-9223372036854775808)] W (AnsB W (.tuple #[.int .i64 0, .int .i64 0, .int .i64 6]))))
    (O2 : Hid (∀ xa xb xc xd W, IsRow .i64 W xa [0] → IsRow .i64 W xb [0] → Calls Try.prog 11 #[ixV 1 xa 1 xc xb 1 xd, .int .i64 0] W (AnsB W (.tuple #[.int .i64 0, .int .i64 0, .int .i64 290]))))
    (O3 : Hid (∀ W, Calls Try.prog 9 #[ixV 0 none 0 0 none 0 0, .int .i64 0] W (AnsB W (.tuple #[.int .i64 0, .int .i64 0, .int .i64 8]))))
    (A0 : Hid (∀ xa xb xc xd W, IsRow .i64 W xa bm → IsRow .i64 W xb bc → Calls Try.prog 13 #[ixV 3 xa bm.length xc xb bc.length xd, .int .i64 0] W (AnsB W (.tuple #[.int .i64 0, .int .i64 0]))))
    (Bm : Hid (∀ xa xb xc xd W, IsRow .i64 W xa bm → IsRow .i64 W xb bc → Calls Try.prog 18 #[ixV 3 xa bm.length xc xb bc.length xd, .int .i64 (-9223372036854775808), .int .i64 0, .int .i64 0] W (AnsB W (.bool true))))
    (B12 : Hid (∀ xa xb xc xd W, IsRow .i64 W xa bm → IsRow .i64 W xb bc → Calls Try.prog 18 #[ixV 3 xa bm.length xc xb bc.length xd, .int .i64 12, .int .i64 3, .int .i64 3] W (AnsB W (.bool true))))
    (C1 : Hid (∀ xa xb xc xd W, IsRow .i64 W xa bm → IsRow .i64 W xb bc → Calls Try.prog 19 #[ixV 3 xa bm.length xc xb bc.length xd, .int .i64 1, .int .i64 0, .int .i64 1] W (AnsB W (.bool true))))
    (C2 : Hid (∀ xa xb xc xd W, IsRow .i64 W xa bm → IsRow .i64 W xb bc → Calls Try.prog 19 #[ixV 3 xa bm.length xc xb bc.length xd, .int .i64 2, .int .i64 2, .int .i64 0] W (AnsB W (.bool true)))) :
    Calls Try.prog 4 #[] w (AnsB w (.bool true)) := by
  unfold FreshIx at CH
  go_enter Try.func4, Try.ntmps4
  go_wp2_with fail
  refine (CH.out _).mono ?_
  rintro e w1 ⟨v, u, rfl, o1, o2, hb1⟩
  have hz_w1 := hb1.size
  try simp only [World.size_alloc, World.size_setCell] at hz_w1
  obtain ⟨a1, c1, rfl, i1, -, -, -, -⟩ := row_of_owns o1
  obtain ⟨d1, e1, rfl, i2, -, -, -, -⟩ := row_of_owns o2
  clear o1 o2
  have h1 : Below w.heap.size w w1 := hb1
  have s1 := h1.size
  clear hb1
  go_wp2_with fail
  refine (N5.out _ _ _ _ _ i1 i2).mono ?_
  rintro e w2 ⟨rfl, hb2⟩
  have hz_w2 := hb2.size
  try simp only [World.size_alloc, World.size_setCell] at hz_w2
  clear i1 i2
  have h2 : Below w.heap.size w w2 := below_via hb2 h1 (by first | omega | (simp; omega))
  have s2 := h2.size
  clear hb2
  go_wp2_with fail
  refine (CH.out _).mono ?_
  rintro e w3 ⟨v, u, rfl, o1, o2, hb3⟩
  have hz_w3 := hb3.size
  try simp only [World.size_alloc, World.size_setCell] at hz_w3
  obtain ⟨a3, c3, rfl, i1, -, -, -, -⟩ := row_of_owns o1
  obtain ⟨d3, e3, rfl, i2, -, -, -, -⟩ := row_of_owns o2
  clear o1 o2
  have h3 : Below w.heap.size w w3 := below_via hb3 h2 (by first | omega | (simp; omega))
  have s3 := h3.size
  clear hb3
  go_wp2_with fail
  refine (Nm.out _ _ _ _ _ i1 i2).mono ?_
  rintro e w4 ⟨rfl, hb4⟩
  have hz_w4 := hb4.size
  try simp only [World.size_alloc, World.size_setCell] at hz_w4
  clear i1 i2
  have h4 : Below w.heap.size w w4 := below_via hb4 h3 (by first | omega | (simp; omega))
  have s4 := h4.size
  clear hb4
  go_wp2_with fail
  refine (CH.out _).mono ?_
  rintro e w5 ⟨v, u, rfl, o1, o2, hb5⟩
  have hz_w5 := hb5.size
  try simp only [World.size_alloc, World.size_setCell] at hz_w5
  obtain ⟨a5, c5, rfl, i1, -, -, -, -⟩ := row_of_owns o1
  obtain ⟨d5, e5, rfl, i2, -, -, -, -⟩ := row_of_owns o2
  clear o1 o2
  have h5 : Below w.heap.size w w5 := below_via hb5 h4 (by first | omega | (simp; omega))
  have s5 := h5.size
  clear hb5
  go_wp2_with fail
  refine (A4.out _ _ _ _ _ i1 i2).mono ?_
  rintro e w6 ⟨rfl, hb6⟩
  have hz_w6 := hb6.size
  try simp only [World.size_alloc, World.size_setCell] at hz_w6
  clear i1 i2
  have h6 : Below w.heap.size w w6 := below_via hb6 h5 (by first | omega | (simp; omega))
  have s6 := h6.size
  clear hb6
  go_wp2_with fail
  refine (CH.out _).mono ?_
  rintro e w7 ⟨v, u, rfl, o1, o2, hb7⟩
  have hz_w7 := hb7.size
  try simp only [World.size_alloc, World.size_setCell] at hz_w7
  obtain ⟨a7, c7, rfl, i1, -, -, -, -⟩ := row_of_owns o1
  obtain ⟨d7, e7, rfl, i2, -, -, -, -⟩ := row_of_owns o2
  clear o1 o2
  have h7 : Below w.heap.size w w7 := below_via hb7 h6 (by first | omega | (simp; omega))
  have s7 := h7.size
  clear hb7
  go_wp2_with fail
  refine (Am.out _ _ _ _ _ i1 i2).mono ?_
  rintro e w8 ⟨rfl, hb8⟩
  have hz_w8 := hb8.size
  try simp only [World.size_alloc, World.size_setCell] at hz_w8
  clear i1 i2
  have h8 : Below w.heap.size w w8 := below_via hb8 h7 (by first | omega | (simp; omega))
  have s8 := h8.size
  clear hb8
  go_wp2_with fail
  have ra := alloc_new w8 (.cells #[.int .i64 0] 2)
  have hba : Below w8.heap.size w8 (w8.alloc (.cells #[.int .i64 0] 2)) := (Below.refl _ _).alloc (Nat.le_refl _) _
  have hsa : (w8.alloc (.cells #[.int .i64 0] 2)).heap.size = w8.heap.size + 1 := by simp
  generalize w8.alloc (.cells #[.int .i64 0] 2) = wa at *
  have rb := alloc_new wa (.cells #[.int .i64 0] 3)
  have hbb : Below wa.heap.size wa (wa.alloc (.cells #[.int .i64 0] 3)) := (Below.refl _ _).alloc (Nat.le_refl _) _
  have hsb : (wa.alloc (.cells #[.int .i64 0] 3)).heap.size = wa.heap.size + 1 := by simp
  generalize wa.alloc (.cells #[.int .i64 0] 3) = wb at *
  rw [hsa] at rb
  have r1 : IsRow .i64 wb (some ⟨w8.heap.size, 0, none⟩) [0] := (row_cells ra rfl).below hbb
  have r2 : IsRow .i64 wb (some ⟨w8.heap.size + 1, 0, none⟩) [0] := row_cells rb rfl
  have hwb : Below w.heap.size w wb := below_via hbb (below_via hba h8 (by omega)) (by omega)
  have swb := hwb.size
  have R1 := Lib.hid (fun W (hb : Below wb.heap.size wb W) => O1.out _ _ 1 1 W (r1.below hb) (r2.below hb))
  have R2 := Lib.hid (fun W (hb : Below wb.heap.size wb W) => O2.out _ _ 1 1 W (r1.below hb) (r2.below hb))
  have zw : w8.heap.size + 1 + 1 = wb.heap.size := by omega
  rw [zw]
  generalize w8.heap.size = p1 at *
  clear r1 r2 ra rb hba hbb hsa hsb zw
  go_wp2_with fail
  refine (R1.out _ ((Below.refl _ _).alloc (Nat.le_refl _) _)).mono ?_
  rintro e w9 ⟨rfl, hb9⟩
  have hz_w9 := hb9.size
  try simp only [World.size_alloc, World.size_setCell] at hz_w9
  have all_c : w9.cell? ⟨wb.heap.size, 0, none⟩ = some (.int .i64 1) ∧ w9.cell? ⟨wb.heap.size, 1, none⟩ = some (.slice (some ⟨p1, 0, none⟩) 1 1) ∧ w9.cell? ⟨wb.heap.size, 2, none⟩ = some (.slice (some ⟨p1 + 1, 0, none⟩) 1 1) := by refine ⟨?_, ?_, ?_⟩ <;> (refine (hb9.cell ?_).trans ?_ <;> first | (first | (with_reducible assumption) | omega | (simp only [World.size_alloc, World.size_setCell, World.size_drew, World.heap_drewN] <;> omega) | (simp <;> omega)) | (first | (with_reducible assumption) | ((try simp (disch := first | omega | (simp only [World.size_alloc, World.size_setCell, World.size_drew, World.heap_drewN] <;> omega) | fail) only [World.cell?_alloc_past, World.cell?_alloc_at, World.frozen?_alloc_past, World.frozen?_alloc_at, World.frozen?_setCell, World.cell?_drew, World.frozen?_drew]) <;> first | (with_reducible assumption) | rfl)))
  have all_z : wb.heap.size < w9.heap.size := by omega
  obtain ⟨c_o0, c_o1, c_o2⟩ := all_c
  try clear all_c
  have z_o := all_z
  try clear all_z
  have t9 : Below wb.heap.size wb w9 := by (repeat (first | (with_reducible exact Below.refl _ _) | (with_reducible assumption) | (with_reducible exact Hid.out (by with_reducible assumption)) | (with_reducible refine Below.alloc ?_ ?_ _) | (with_reducible refine Below.setCell ?_ ?_ _) | (with_reducible refine below_drewN ?_ _) | (with_reducible refine Below.drew ?_) | (with_reducible refine below_via (by with_reducible assumption) ?_ ?_) | (first | (with_reducible assumption) | omega | (simp only [World.size_alloc, World.size_setCell, World.size_drew, World.heap_drewN] <;> omega) | (simp <;> omega))))
  clear hb9
  go_wp2_with fail
  refine (R2.out _ t9).mono ?_
  rintro e w10 ⟨rfl, hb10⟩
  have hz_w10 := hb10.size
  try simp only [World.size_alloc, World.size_setCell] at hz_w10
  have all_c : w10.cell? ⟨wb.heap.size, 0, none⟩ = some (.int .i64 1) ∧ w10.cell? ⟨wb.heap.size, 1, none⟩ = some (.slice (some ⟨p1, 0, none⟩) 1 1) ∧ w10.cell? ⟨wb.heap.size, 2, none⟩ = some (.slice (some ⟨p1 + 1, 0, none⟩) 1 1) := by refine ⟨?_, ?_, ?_⟩ <;> (refine (hb10.cell ?_).trans ?_ <;> first | (first | (with_reducible assumption) | omega | (simp only [World.size_alloc, World.size_setCell, World.size_drew, World.heap_drewN] <;> omega) | (simp <;> omega)) | (first | (with_reducible assumption) | ((try simp (disch := first | omega | (simp only [World.size_alloc, World.size_setCell, World.size_drew, World.heap_drewN] <;> omega) | fail) only [World.cell?_alloc_past, World.cell?_alloc_at, World.frozen?_alloc_past, World.frozen?_alloc_at, World.frozen?_setCell, World.cell?_drew, World.frozen?_drew]) <;> first | (with_reducible assumption) | rfl)))
  have all_z : wb.heap.size < w10.heap.size := by omega
  clear c_o0 c_o1 c_o2 z_o
  obtain ⟨c_o0, c_o1, c_o2⟩ := all_c
  try clear all_c
  have z_o := all_z
  try clear all_z
  have t10 : Below wb.heap.size wb w10 := by (repeat (first | (with_reducible exact Below.refl _ _) | (with_reducible assumption) | (with_reducible exact Hid.out (by with_reducible assumption)) | (with_reducible refine Below.alloc ?_ ?_ _) | (with_reducible refine Below.setCell ?_ ?_ _) | (with_reducible refine below_drewN ?_ _) | (with_reducible refine Below.drew ?_) | (with_reducible refine below_via (by with_reducible assumption) ?_ ?_) | (first | (with_reducible assumption) | omega | (simp only [World.size_alloc, World.size_setCell, World.size_drew, World.heap_drewN] <;> omega) | (simp <;> omega))))
  have z10 := t10.size
  clear hb10
  have h10 : Below w.heap.size w w10 := below_via t10 hwb (by omega)
  go_wp2_with fail
  refine (O3.out _).mono ?_
  rintro e w11 ⟨rfl, hb11⟩
  have hz_w11 := hb11.size
  try simp only [World.size_alloc, World.size_setCell] at hz_w11
  have h11 : Below w.heap.size w w11 := below_via hb11 h10 (by first | omega | (simp; omega))
  have s11 := h11.size
  clear hb11
  go_wp2_with fail
  refine (CH.out _).mono ?_
  rintro e w12 ⟨v, u, rfl, o1, o2, hb12⟩
  have hz_w12 := hb12.size
  try simp only [World.size_alloc, World.size_setCell] at hz_w12
  obtain ⟨a12, c12, rfl, i1, -, -, -, -⟩ := row_of_owns o1
  obtain ⟨d12, e12, rfl, i2, -, -, -, -⟩ := row_of_owns o2
  clear o1 o2
  have h12 : Below w.heap.size w w12 := below_via hb12 h11 (by first | omega | (simp; omega))
  have s12 := h12.size
  clear hb12
  go_wp2_with fail
  refine (A0.out _ _ _ _ _ i1 i2).mono ?_
  rintro e w13 ⟨rfl, hb13⟩
  have hz_w13 := hb13.size
  try simp only [World.size_alloc, World.size_setCell] at hz_w13
  clear i1 i2
  have h13 : Below w.heap.size w w13 := below_via hb13 h12 (by first | omega | (simp; omega))
  have s13 := h13.size
  clear hb13
  go_wp2_with fail
  refine (AL.out _).mono ?_
  rintro e w14 ⟨rfl, hb14⟩
  have hz_w14 := hb14.size
  try simp only [World.size_alloc, World.size_setCell] at hz_w14
  have h14 : Below w.heap.size w w14 := below_via hb14 h13 (by first | omega | (simp; omega))
  have s14 := h14.size
  clear hb14
  go_wp2_with fail
  refine (CH.out _).mono ?_
  rintro e w15 ⟨v, u, rfl, o1, o2, hb15⟩
  have hz_w15 := hb15.size
  try simp only [World.size_alloc, World.size_setCell] at hz_w15
  obtain ⟨a15, c15, rfl, i1, -, -, -, -⟩ := row_of_owns o1
  obtain ⟨d15, e15, rfl, i2, -, -, -, -⟩ := row_of_owns o2
  clear o1 o2
  have h15 : Below w.heap.size w w15 := below_via hb15 h14 (by first | omega | (simp; omega))
  have s15 := h15.size
  clear hb15
  go_wp2_with fail
  refine (Bm.out _ _ _ _ _ i1 i2).mono ?_
  rintro e w16 ⟨rfl, hb16⟩
  have hz_w16 := hb16.size
  try simp only [World.size_alloc, World.size_setCell] at hz_w16
  clear i1 i2
  have h16 : Below w.heap.size w w16 := below_via hb16 h15 (by first | omega | (simp; omega))
  have s16 := h16.size
  clear hb16
  go_wp2_with fail
  refine (CH.out _).mono ?_
  rintro e w17 ⟨v, u, rfl, o1, o2, hb17⟩
  have hz_w17 := hb17.size
  try simp only [World.size_alloc, World.size_setCell] at hz_w17
  obtain ⟨a17, c17, rfl, i1, -, -, -, -⟩ := row_of_owns o1
  obtain ⟨d17, e17, rfl, i2, -, -, -, -⟩ := row_of_owns o2
  clear o1 o2
  have h17 : Below w.heap.size w w17 := below_via hb17 h16 (by first | omega | (simp; omega))
  have s17 := h17.size
  clear hb17
  go_wp2_with fail
  refine (B12.out _ _ _ _ _ i1 i2).mono ?_
  rintro e w18 ⟨rfl, hb18⟩
  have hz_w18 := hb18.size
  try simp only [World.size_alloc, World.size_setCell] at hz_w18
  clear i1 i2
  have h18 : Below w.heap.size w w18 := below_via hb18 h17 (by first | omega | (simp; omega))
  have s18 := h18.size
  clear hb18
  go_wp2_with fail
  refine (CH.out _).mono ?_
  rintro e w19 ⟨v, u, rfl, o1, o2, hb19⟩
  have hz_w19 := hb19.size
  try simp only [World.size_alloc, World.size_setCell] at hz_w19
  obtain ⟨a19, c19, rfl, i1, -, -, -, -⟩ := row_of_owns o1
  obtain ⟨d19, e19, rfl, i2, -, -, -, -⟩ := row_of_owns o2
  clear o1 o2
  have h19 : Below w.heap.size w w19 := below_via hb19 h18 (by first | omega | (simp; omega))
  have s19 := h19.size
  clear hb19
  go_wp2_with fail
  refine (C1.out _ _ _ _ _ i1 i2).mono ?_
  rintro e w20 ⟨rfl, hb20⟩
  have hz_w20 := hb20.size
  try simp only [World.size_alloc, World.size_setCell] at hz_w20
  clear i1 i2
  have h20 : Below w.heap.size w w20 := below_via hb20 h19 (by first | omega | (simp; omega))
  have s20 := h20.size
  clear hb20
  go_wp2_with fail
  refine (CH.out _).mono ?_
  rintro e w21 ⟨v, u, rfl, o1, o2, hb21⟩
  have hz_w21 := hb21.size
  try simp only [World.size_alloc, World.size_setCell] at hz_w21
  obtain ⟨a21, c21, rfl, i1, -, -, -, -⟩ := row_of_owns o1
  obtain ⟨d21, e21, rfl, i2, -, -, -, -⟩ := row_of_owns o2
  clear o1 o2
  have h21 : Below w.heap.size w w21 := below_via hb21 h20 (by first | omega | (simp; omega))
  have s21 := h21.size
  clear hb21
  go_wp2_with fail
  refine (C2.out _ _ _ _ _ i1 i2).mono ?_
  rintro e w22 ⟨rfl, hb22⟩
  have hz_w22 := hb22.size
  try simp only [World.size_alloc, World.size_setCell] at hz_w22
  clear i1 i2
  have h22 : Below w.heap.size w w22 := below_via hb22 h21 (by first | omega | (simp; omega))
  have s22 := h22.size
  clear hb22
  go_wp2
  go_ret
  exact ⟨rfl, h22⟩
theorem ch_nm : (nthT 3 (bldM chC) (bldC chC) 5 = (0, 0, 290) ∧ nthT 3 (bldM chC) (bldC chC) (-1) = (0, 0, 290) ∧ ahT 3 (bldM chC) (bldC chC) 4 = (0, 2) ∧ ahT 3 (bldM chC) (bldC chC) (-1) = (0, 2) ∧ ahT 3 (bldM chC) (bldC chC) 0 = (0, 0)) ∧ homT 3 (bldM chC) (bldC chC) (-9223372036854775808) = (0, 0, 0) ∧ homT 3 (bldM chC) (bldC chC) 12 = (3, 3, 0) ∧ nthT 3 (bldM chC) (bldC chC) 1 = (0, 1, 0) ∧ nthT 3 (bldM chC) (bldC chC) 2 = (2, 0, 0) := by rw [chC_eq]; decide +kernel
theorem one_nm : homT 1 [0] [0] (-9223372036854775808) = (0, 0, 6) ∧ nthT 1 [0] [0] 0 = (0, 0, 290) ∧ homT 0 [] [] 0 = (0, 0, 8) := by decide +kernel
theorem DownNames_walk (w : World) : Calls Try.prog 4 #[] w fun e w' => e = .returned (.bool true) ∧ Below w.heap.size w w' := by
  refine DownNames_in _ _ w (Lib.hid chapter_ok) (Lib.hid down_alive) (Lib.hid (nth_ch 5 0 0 290 (by decide) (by decide) ch_nm.1.1)) (Lib.hid (nth_ch (-1) 0 0 290 (by decide) (by decide) ch_nm.1.2.1)) (Lib.hid (ahead_ch 4 0 2 ch_nm.1.2.2.1)) (Lib.hid (ahead_ch (-1) 0 2 ch_nm.1.2.2.2.1)) (Lib.hid fun xa xb xc xd W h1 h2 => ?_) (Lib.hid fun xa xb xc xd W h1 h2 => ?_) (Lib.hid fun W => ?_) (Lib.hid (ahead_ch 0 0 0 ch_nm.1.2.2.2.2)) (Lib.hid (home_is (-9223372036854775808) 0 0 ch_nm.2.1)) (Lib.hid (home_is 12 3 3 ch_nm.2.2.1)) (Lib.hid (nth_is 1 0 1 (by decide) (by decide) ch_nm.2.2.2.1)) (Lib.hid (nth_is 2 2 0 (by decide) (by decide) ch_nm.2.2.2.2))
  · have := Home_ix 1 (-9223372036854775808) xa xb xc xd [0] [0] W h1 h2
    rw [one_nm.1] at this
    exact this
  · have := Nth_ix 1 0 (by decide) (by decide) xa xb xc xd [0] [0] W h1 h2
    rw [one_nm.2.1] at this
    exact this
  · have := Home_ix 0 0 none none 0 0 [] [] W (fun i hi => absurd hi (Nat.not_lt_zero _)) (fun i hi => absurd hi (Nat.not_lt_zero _))
    rw [one_nm.2.2] at this
    exact this
end Go.Proofs.Ytfmoghjddfjfmaa
