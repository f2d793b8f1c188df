/- The index of the chapter: New, Fill, then Build. -/
import Derived.Test.YtfmoghjddfjfmaaDoorSlPut
import Derived.Test.YtfmoghjddfjfmaaDoorBltIx
namespace Go.Proofs.YtfmoghjddfjfmaaDoor
open Go.RowKit
set_option linter.unusedVariables false
set_option linter.unusedSimpArgs false

set_option maxRecDepth 100000 in
set_option maxHeartbeats 1000000 in
theorem chapter_ok (w : World) : Calls Tryd.prog 10 #[] w (FreshIx w 3 (bldM chC) (bldC chC)) := by
  have BI := Lib.hid (fun a W h => BuildIx_ok chC a (by rw [chC_eq]; decide) (by rw [chC_eq]; decide) W h)
  rw [chC_lev, chC_bld] at BI
  have HU := Lib.hid chC_u
  generalize bldM chC = bm at *
  generalize bldC chC = bc at *
  have NW := Lib.hid (fun W => slNew_core W 4 16 1 4 (by decide) (by decide) (by decide) (by decide) (by decide) (by decide) (by decide) (Lib.hid fun W' => fits_ok 4 16 W'))
  go_enter Tryd.func10, Tryd.ntmps10
  go_wp2_with fail
  refine (NW.out _).mono ?_
  rintro e w1 ⟨v1, v2, v3, v4, rfl, o1, o2, o3, o4, hb1⟩
  obtain ⟨a1, c1, rfl, i1, -, -, -, -⟩ := row_of_owns o1
  obtain ⟨a2, c2, rfl, i2, -, -, -, -⟩ := row_of_owns o2
  obtain ⟨a3, c3, rfl, i3, -, -, -, -⟩ := row_of_owns o3
  obtain ⟨a4, c4, rfl, i4, -, -, -, -⟩ := row_of_owns o4
  have hz_w1 := hb1.size
  try simp only [World.size_alloc, World.size_setCell] at hz_w1
  have c_r0 : w1.cell? ⟨w.heap.size, 0, none⟩ = some (.int .i64 0) := (hb1.cell (p := ⟨w.heap.size, 0, none⟩) (by (first | (with_reducible assumption) | omega | (simp only [World.size_alloc, World.size_setCell, World.size_drew, World.heap_drewN] <;> omega) | (simp <;> omega)))).trans (by (first | (with_reducible assumption) | ((try simp (disch := first | omega | (simp only [World.size_alloc, World.size_setCell, World.size_drew, World.heap_drewN] <;> omega) | fail) only [World.cell?_alloc_past, World.cell?_alloc_at, World.frozen?_alloc_past, World.frozen?_alloc_at, World.frozen?_setCell, World.cell?_drew, World.frozen?_drew]) <;> first | (with_reducible assumption) | rfl)))
  have f_r0 : w1.frozen? ⟨w.heap.size, 0, none⟩ = false := (hb1.frozen (p := ⟨w.heap.size, 0, none⟩) (by (first | (with_reducible assumption) | omega | (simp only [World.size_alloc, World.size_setCell, World.size_drew, World.heap_drewN] <;> omega) | (simp <;> omega)))).trans (by (first | (with_reducible assumption) | ((try simp (disch := first | omega | (simp only [World.size_alloc, World.size_setCell, World.size_drew, World.heap_drewN] <;> omega) | fail) only [World.cell?_alloc_past, World.cell?_alloc_at, World.frozen?_alloc_past, World.frozen?_alloc_at, World.frozen?_setCell, World.cell?_drew, World.frozen?_drew]) <;> first | (with_reducible assumption) | rfl)))
  have c_r1 : w1.cell? ⟨w.heap.size, 1, none⟩ = some (.slice none 0 0) := (hb1.cell (p := ⟨w.heap.size, 1, none⟩) (by (first | (with_reducible assumption) | omega | (simp only [World.size_alloc, World.size_setCell, World.size_drew, World.heap_drewN] <;> omega) | (simp <;> omega)))).trans (by (first | (with_reducible assumption) | ((try simp (disch := first | omega | (simp only [World.size_alloc, World.size_setCell, World.size_drew, World.heap_drewN] <;> omega) | fail) only [World.cell?_alloc_past, World.cell?_alloc_at, World.frozen?_alloc_past, World.frozen?_alloc_at, World.frozen?_setCell, World.cell?_drew, World.frozen?_drew]) <;> first | (with_reducible assumption) | rfl)))
  have f_r1 : w1.frozen? ⟨w.heap.size, 1, none⟩ = false := (hb1.frozen (p := ⟨w.heap.size, 1, none⟩) (by (first | (with_reducible assumption) | omega | (simp only [World.size_alloc, World.size_setCell, World.size_drew, World.heap_drewN] <;> omega) | (simp <;> omega)))).trans (by (first | (with_reducible assumption) | ((try simp (disch := first | omega | (simp only [World.size_alloc, World.size_setCell, World.size_drew, World.heap_drewN] <;> omega) | fail) only [World.cell?_alloc_past, World.cell?_alloc_at, World.frozen?_alloc_past, World.frozen?_alloc_at, World.frozen?_setCell, World.cell?_drew, World.frozen?_drew]) <;> first | (with_reducible assumption) | rfl)))
  have c_r2 : w1.cell? ⟨w.heap.size, 2, none⟩ = some (.slice none 0 0) := (hb1.cell (p := ⟨w.heap.size, 2, none⟩) (by (first | (with_reducible assumption) | omega | (simp only [World.size_alloc, World.size_setCell, World.size_drew, World.heap_drewN] <;> omega) | (simp <;> omega)))).trans (by (first | (with_reducible assumption) | ((try simp (disch := first | omega | (simp only [World.size_alloc, World.size_setCell, World.size_drew, World.heap_drewN] <;> omega) | fail) only [World.cell?_alloc_past, World.cell?_alloc_at, World.frozen?_alloc_past, World.frozen?_alloc_at, World.frozen?_setCell, World.cell?_drew, World.frozen?_drew]) <;> first | (with_reducible assumption) | rfl)))
  have f_r2 : w1.frozen? ⟨w.heap.size, 2, none⟩ = false := (hb1.frozen (p := ⟨w.heap.size, 2, none⟩) (by (first | (with_reducible assumption) | omega | (simp only [World.size_alloc, World.size_setCell, World.size_drew, World.heap_drewN] <;> omega) | (simp <;> omega)))).trans (by (first | (with_reducible assumption) | ((try simp (disch := first | omega | (simp only [World.size_alloc, World.size_setCell, World.size_drew, World.heap_drewN] <;> omega) | fail) only [World.cell?_alloc_past, World.cell?_alloc_at, World.frozen?_alloc_past, World.frozen?_alloc_at, World.frozen?_setCell, World.cell?_drew, World.frozen?_drew]) <;> first | (with_reducible assumption) | rfl)))
  have z_r : w.heap.size < w1.heap.size := by omega
  clear o1 o2 o3 o4
  go_wp2_with fail
  have hB1 : Below w.heap.size w w1 := by (repeat (first | (with_reducible exact Below.refl _ _) | (with_reducible assumption) | (with_reducible exact Hid.out (by with_reducible assumption)) | (with_reducible refine Below.alloc ?_ ?_ _) | (with_reducible refine Below.setCell ?_ ?_ _) | (with_reducible refine below_drewN ?_ _) | (with_reducible refine Below.drew ?_) | (with_reducible refine below_via (by with_reducible assumption) ?_ ?_) | (first | (with_reducible assumption) | omega | (simp only [World.size_alloc, World.size_setCell, World.size_drew, World.heap_drewN] <;> omega) | (simp <;> omega))))
  have ha := alloc_new w1 (.cells #[.int .i64 (zeroSl 4 16 1 4).seg, .slice a1 (zeroSl 4 16 1 4).ws.length c1, .slice a2 (zeroSl 4 16 1 4).ks.length c2, .slice a3 (zeroSl 4 16 1 4).vs.length c3, .slice a4 (zeroSl 4 16 1 4).cs.length c4, .int .u64 (zeroSl 4 16 1 4).laid] 27)
  have hba : Below w1.heap.size w1 (w1.alloc (.cells #[.int .i64 (zeroSl 4 16 1 4).seg, .slice a1 (zeroSl 4 16 1 4).ws.length c1, .slice a2 (zeroSl 4 16 1 4).ks.length c2, .slice a3 (zeroSl 4 16 1 4).vs.length c3, .slice a4 (zeroSl 4 16 1 4).cs.length c4, .int .u64 (zeroSl 4 16 1 4).laid] 27)) := (Below.refl _ _).alloc (Nat.le_refl _) _
  have hsa : (w1.alloc (.cells #[.int .i64 (zeroSl 4 16 1 4).seg, .slice a1 (zeroSl 4 16 1 4).ws.length c1, .slice a2 (zeroSl 4 16 1 4).ks.length c2, .slice a3 (zeroSl 4 16 1 4).vs.length c3, .slice a4 (zeroSl 4 16 1 4).cs.length c4, .int .u64 (zeroSl 4 16 1 4).laid] 27)).heap.size = w1.heap.size + 1 := by simp
  generalize w1.alloc (.cells #[.int .i64 (zeroSl 4 16 1 4).seg, .slice a1 (zeroSl 4 16 1 4).ws.length c1, .slice a2 (zeroSl 4 16 1 4).ks.length c2, .slice a3 (zeroSl 4 16 1 4).vs.length c3, .slice a4 (zeroSl 4 16 1 4).cs.length c4, .int .u64 (zeroSl 4 16 1 4).laid] 27) = wa at *
  have hb := alloc_new wa (.cells #[.int .i64 1, .int .i64 0, .int .i64 5, .int .i64 0, .int .i64 7, .int .i64 0, .int .i64 9, .int .i64 0, .int .i64 12, .int .i64 0] 68)
  have hbb : Below wa.heap.size wa (wa.alloc (.cells #[.int .i64 1, .int .i64 0, .int .i64 5, .int .i64 0, .int .i64 7, .int .i64 0, .int .i64 9, .int .i64 0, .int .i64 12, .int .i64 0] 68)) := (Below.refl _ _).alloc (Nat.le_refl _) _
  have hsb : (wa.alloc (.cells #[.int .i64 1, .int .i64 0, .int .i64 5, .int .i64 0, .int .i64 7, .int .i64 0, .int .i64 9, .int .i64 0, .int .i64 12, .int .i64 0] 68)).heap.size = wa.heap.size + 1 := by simp
  generalize wa.alloc (.cells #[.int .i64 1, .int .i64 0, .int .i64 5, .int .i64 0, .int .i64 7, .int .i64 0, .int .i64 9, .int .i64 0, .int .i64 12, .int .i64 0] 68) = wb at *
  have hc := alloc_new wb (.cells #[.int .i64 0, .int .i64 3, .int .i64 9, .int .i64 12, .int .i64 13] 3)
  have hbc : Below wb.heap.size wb (wb.alloc (.cells #[.int .i64 0, .int .i64 3, .int .i64 9, .int .i64 12, .int .i64 13] 3)) := (Below.refl _ _).alloc (Nat.le_refl _) _
  have hsc : (wb.alloc (.cells #[.int .i64 0, .int .i64 3, .int .i64 9, .int .i64 12, .int .i64 13] 3)).heap.size = wb.heap.size + 1 := by simp
  generalize wb.alloc (.cells #[.int .i64 0, .int .i64 3, .int .i64 9, .int .i64 12, .int .i64 13] 3) = w3 at *
  have ha3 := (hbc.block _ (by omega)).trans ((hbb.block w1.heap.size (by omega)).trans ha)
  have hb3 := (hbc.block _ (by omega)).trans hb
  rw [hsa] at hb3
  rw [hsb, hsa] at hc
  have hps : IsRow .i64 w3 (some ⟨w1.heap.size + 1 + 1, 0, none⟩) (ints chPs) := row_cells hc rfl
  have hpr : IsRow .i64 w3 (some ⟨w1.heap.size + 1, 0, none⟩) (prI chL) := row_cells hb3 rfl
  have h31 : Below w1.heap.size w1 w3 := hba.trans ((hbb.mono (by omega)).trans (hbc.mono (by omega)))
  have hin : SlIn w3 chZ ⟨a1, a2, a3, a4, c1, c2, c3, c4⟩ := chZ_in (i1.below h31) (i2.below h31) (i3.below h31) (i4.below h31)
  have PT := Lib.hid (fun W (hb : Below w3.heap.size w3 W) => part_ok chZ ⟨a1, a2, a3, a4, c1, c2, c3, c4⟩ (by decide) (by decide) 0 16 W (hin.below hb))
  rw [chZ_part] at PT
  have TW := Lib.hid (fun W (hb : Below w3.heap.size w3 W) => slTwin_ok chZ ⟨a1, a2, a3, a4, c1, c2, c3, c4⟩ W (hin.below hb) (by decide) (by decide) (by decide) (by decide))
  have FL := slFill_core w3 4 a1 a2 a3 a4 c1 c2 c3 c4 1 16 4 0 chZ 0 16 5 4 chPs chL _ _ 5 5 rfl rfl rfl rfl rfl rfl (by decide) (by decide) (by decide) (by decide) (by decide) (by decide) rfl (by decide) (by decide) (by decide) (by decide) (by decide) rfl rfl (by decide) (by decide) chZ_okt chC_okl (Lib.hid hps) (Lib.hid hpr) PT TW
  have hBw3 : Below w.heap.size w w3 := below_via h31 hB1 (by omega)
  obtain ⟨u0, u1, u2, u3, u4, u5, t0, t1, t2, t3, t4, t5, tf⟩ := box_six ha3 rfl
  have hz_w3 := h31.size
  try simp only [World.size_alloc, World.size_setCell] at hz_w3
  replace c_r0 : w3.cell? ⟨w.heap.size, 0, none⟩ = some (.int .i64 0) := (h31.cell (p := ⟨w.heap.size, 0, none⟩) (by (first | (with_reducible assumption) | omega | (simp only [World.size_alloc, World.size_setCell, World.size_drew, World.heap_drewN] <;> omega) | (simp <;> omega)))).trans (by (first | (with_reducible assumption) | ((try simp (disch := first | omega | (simp only [World.size_alloc, World.size_setCell, World.size_drew, World.heap_drewN] <;> omega) | fail) only [World.cell?_alloc_past, World.cell?_alloc_at, World.frozen?_alloc_past, World.frozen?_alloc_at, World.frozen?_setCell, World.cell?_drew, World.frozen?_drew]) <;> first | (with_reducible assumption) | rfl)))
  replace f_r0 : w3.frozen? ⟨w.heap.size, 0, none⟩ = false := (h31.frozen (p := ⟨w.heap.size, 0, none⟩) (by (first | (with_reducible assumption) | omega | (simp only [World.size_alloc, World.size_setCell, World.size_drew, World.heap_drewN] <;> omega) | (simp <;> omega)))).trans (by (first | (with_reducible assumption) | ((try simp (disch := first | omega | (simp only [World.size_alloc, World.size_setCell, World.size_drew, World.heap_drewN] <;> omega) | fail) only [World.cell?_alloc_past, World.cell?_alloc_at, World.frozen?_alloc_past, World.frozen?_alloc_at, World.frozen?_setCell, World.cell?_drew, World.frozen?_drew]) <;> first | (with_reducible assumption) | rfl)))
  replace c_r1 : w3.cell? ⟨w.heap.size, 1, none⟩ = some (.slice none 0 0) := (h31.cell (p := ⟨w.heap.size, 1, none⟩) (by (first | (with_reducible assumption) | omega | (simp only [World.size_alloc, World.size_setCell, World.size_drew, World.heap_drewN] <;> omega) | (simp <;> omega)))).trans (by (first | (with_reducible assumption) | ((try simp (disch := first | omega | (simp only [World.size_alloc, World.size_setCell, World.size_drew, World.heap_drewN] <;> omega) | fail) only [World.cell?_alloc_past, World.cell?_alloc_at, World.frozen?_alloc_past, World.frozen?_alloc_at, World.frozen?_setCell, World.cell?_drew, World.frozen?_drew]) <;> first | (with_reducible assumption) | rfl)))
  replace f_r1 : w3.frozen? ⟨w.heap.size, 1, none⟩ = false := (h31.frozen (p := ⟨w.heap.size, 1, none⟩) (by (first | (with_reducible assumption) | omega | (simp only [World.size_alloc, World.size_setCell, World.size_drew, World.heap_drewN] <;> omega) | (simp <;> omega)))).trans (by (first | (with_reducible assumption) | ((try simp (disch := first | omega | (simp only [World.size_alloc, World.size_setCell, World.size_drew, World.heap_drewN] <;> omega) | fail) only [World.cell?_alloc_past, World.cell?_alloc_at, World.frozen?_alloc_past, World.frozen?_alloc_at, World.frozen?_setCell, World.cell?_drew, World.frozen?_drew]) <;> first | (with_reducible assumption) | rfl)))
  replace c_r2 : w3.cell? ⟨w.heap.size, 2, none⟩ = some (.slice none 0 0) := (h31.cell (p := ⟨w.heap.size, 2, none⟩) (by (first | (with_reducible assumption) | omega | (simp only [World.size_alloc, World.size_setCell, World.size_drew, World.heap_drewN] <;> omega) | (simp <;> omega)))).trans (by (first | (with_reducible assumption) | ((try simp (disch := first | omega | (simp only [World.size_alloc, World.size_setCell, World.size_drew, World.heap_drewN] <;> omega) | fail) only [World.cell?_alloc_past, World.cell?_alloc_at, World.frozen?_alloc_past, World.frozen?_alloc_at, World.frozen?_setCell, World.cell?_drew, World.frozen?_drew]) <;> first | (with_reducible assumption) | rfl)))
  replace f_r2 : w3.frozen? ⟨w.heap.size, 2, none⟩ = false := (h31.frozen (p := ⟨w.heap.size, 2, none⟩) (by (first | (with_reducible assumption) | omega | (simp only [World.size_alloc, World.size_setCell, World.size_drew, World.heap_drewN] <;> omega) | (simp <;> omega)))).trans (by (first | (with_reducible assumption) | ((try simp (disch := first | omega | (simp only [World.size_alloc, World.size_setCell, World.size_drew, World.heap_drewN] <;> omega) | fail) only [World.cell?_alloc_past, World.cell?_alloc_at, World.frozen?_alloc_past, World.frozen?_alloc_at, World.frozen?_setCell, World.cell?_drew, World.frozen?_drew]) <;> first | (with_reducible assumption) | rfl)))
  replace z_r : w.heap.size < w3.heap.size := by omega
  change Calls _ _ _ _ (FreshSl2 w3 chC _) at FL
  have tf0 := tf 0
  have tf1 := tf 1
  have tf2 := tf 2
  have tf3 := tf 3
  have tf4 := tf 4
  have tf5 := tf 5
  refine FL.mono ?_
  rintro e w4 ⟨v1, v2, v3, v4, rfl, p1, p2, p3, p4, hb4⟩
  obtain ⟨b1, d1, rfl, -⟩ := owns_news p1
  obtain ⟨b2, d2, rfl, -⟩ := owns_news p2
  obtain ⟨b3, d3, rfl, -⟩ := owns_news p3
  obtain ⟨b4, d4, rfl, -⟩ := owns_news p4
  have hz4 := hb4.size
  replace t0 := (hb4.cell (p := ⟨w1.heap.size, 0, none⟩) (by dsimp only; omega)).trans t0
  replace t1 := (hb4.cell (p := ⟨w1.heap.size, 1, none⟩) (by dsimp only; omega)).trans t1
  replace t2 := (hb4.cell (p := ⟨w1.heap.size, 2, none⟩) (by dsimp only; omega)).trans t2
  replace t3 := (hb4.cell (p := ⟨w1.heap.size, 3, none⟩) (by dsimp only; omega)).trans t3
  replace t4 := (hb4.cell (p := ⟨w1.heap.size, 4, none⟩) (by dsimp only; omega)).trans t4
  replace t5 := (hb4.cell (p := ⟨w1.heap.size, 5, none⟩) (by dsimp only; omega)).trans t5
  replace tf0 := (hb4.frozen (p := ⟨w1.heap.size, 0, none⟩) (by dsimp only; omega)).trans tf0
  replace tf1 := (hb4.frozen (p := ⟨w1.heap.size, 1, none⟩) (by dsimp only; omega)).trans tf1
  replace tf2 := (hb4.frozen (p := ⟨w1.heap.size, 2, none⟩) (by dsimp only; omega)).trans tf2
  replace tf3 := (hb4.frozen (p := ⟨w1.heap.size, 3, none⟩) (by dsimp only; omega)).trans tf3
  replace tf4 := (hb4.frozen (p := ⟨w1.heap.size, 4, none⟩) (by dsimp only; omega)).trans tf4
  replace tf5 := (hb4.frozen (p := ⟨w1.heap.size, 5, none⟩) (by dsimp only; omega)).trans tf5
  have hz_w4 := hb4.size
  try simp only [World.size_alloc, World.size_setCell] at hz_w4
  replace c_r0 : w4.cell? ⟨w.heap.size, 0, none⟩ = some (.int .i64 0) := (hb4.cell (p := ⟨w.heap.size, 0, none⟩) (by (first | (with_reducible assumption) | omega | (simp only [World.size_alloc, World.size_setCell, World.size_drew, World.heap_drewN] <;> omega) | (simp <;> omega)))).trans (by (first | (with_reducible assumption) | ((try simp (disch := first | omega | (simp only [World.size_alloc, World.size_setCell, World.size_drew, World.heap_drewN] <;> omega) | fail) only [World.cell?_alloc_past, World.cell?_alloc_at, World.frozen?_alloc_past, World.frozen?_alloc_at, World.frozen?_setCell, World.cell?_drew, World.frozen?_drew]) <;> first | (with_reducible assumption) | rfl)))
  replace f_r0 : w4.frozen? ⟨w.heap.size, 0, none⟩ = false := (hb4.frozen (p := ⟨w.heap.size, 0, none⟩) (by (first | (with_reducible assumption) | omega | (simp only [World.size_alloc, World.size_setCell, World.size_drew, World.heap_drewN] <;> omega) | (simp <;> omega)))).trans (by (first | (with_reducible assumption) | ((try simp (disch := first | omega | (simp only [World.size_alloc, World.size_setCell, World.size_drew, World.heap_drewN] <;> omega) | fail) only [World.cell?_alloc_past, World.cell?_alloc_at, World.frozen?_alloc_past, World.frozen?_alloc_at, World.frozen?_setCell, World.cell?_drew, World.frozen?_drew]) <;> first | (with_reducible assumption) | rfl)))
  replace c_r1 : w4.cell? ⟨w.heap.size, 1, none⟩ = some (.slice none 0 0) := (hb4.cell (p := ⟨w.heap.size, 1, none⟩) (by (first | (with_reducible assumption) | omega | (simp only [World.size_alloc, World.size_setCell, World.size_drew, World.heap_drewN] <;> omega) | (simp <;> omega)))).trans (by (first | (with_reducible assumption) | ((try simp (disch := first | omega | (simp only [World.size_alloc, World.size_setCell, World.size_drew, World.heap_drewN] <;> omega) | fail) only [World.cell?_alloc_past, World.cell?_alloc_at, World.frozen?_alloc_past, World.frozen?_alloc_at, World.frozen?_setCell, World.cell?_drew, World.frozen?_drew]) <;> first | (with_reducible assumption) | rfl)))
  replace f_r1 : w4.frozen? ⟨w.heap.size, 1, none⟩ = false := (hb4.frozen (p := ⟨w.heap.size, 1, none⟩) (by (first | (with_reducible assumption) | omega | (simp only [World.size_alloc, World.size_setCell, World.size_drew, World.heap_drewN] <;> omega) | (simp <;> omega)))).trans (by (first | (with_reducible assumption) | ((try simp (disch := first | omega | (simp only [World.size_alloc, World.size_setCell, World.size_drew, World.heap_drewN] <;> omega) | fail) only [World.cell?_alloc_past, World.cell?_alloc_at, World.frozen?_alloc_past, World.frozen?_alloc_at, World.frozen?_setCell, World.cell?_drew, World.frozen?_drew]) <;> first | (with_reducible assumption) | rfl)))
  replace c_r2 : w4.cell? ⟨w.heap.size, 2, none⟩ = some (.slice none 0 0) := (hb4.cell (p := ⟨w.heap.size, 2, none⟩) (by (first | (with_reducible assumption) | omega | (simp only [World.size_alloc, World.size_setCell, World.size_drew, World.heap_drewN] <;> omega) | (simp <;> omega)))).trans (by (first | (with_reducible assumption) | ((try simp (disch := first | omega | (simp only [World.size_alloc, World.size_setCell, World.size_drew, World.heap_drewN] <;> omega) | fail) only [World.cell?_alloc_past, World.cell?_alloc_at, World.frozen?_alloc_past, World.frozen?_alloc_at, World.frozen?_setCell, World.cell?_drew, World.frozen?_drew]) <;> first | (with_reducible assumption) | rfl)))
  replace f_r2 : w4.frozen? ⟨w.heap.size, 2, none⟩ = false := (hb4.frozen (p := ⟨w.heap.size, 2, none⟩) (by (first | (with_reducible assumption) | omega | (simp only [World.size_alloc, World.size_setCell, World.size_drew, World.heap_drewN] <;> omega) | (simp <;> omega)))).trans (by (first | (with_reducible assumption) | ((try simp (disch := first | omega | (simp only [World.size_alloc, World.size_setCell, World.size_drew, World.heap_drewN] <;> omega) | fail) only [World.cell?_alloc_past, World.cell?_alloc_at, World.frozen?_alloc_past, World.frozen?_alloc_at, World.frozen?_setCell, World.cell?_drew, World.frozen?_drew]) <;> first | (with_reducible assumption) | rfl)))
  replace z_r : w.heap.size < w4.heap.size := by omega
  have hB4 : Below w.heap.size w w4 := below_via hb4 hBw3 (by omega)
  have HP1 := Lib.hid p1
  have HP2 := Lib.hid p2
  have HP3 := Lib.hid p3
  have HP4 := Lib.hid p4
  clear p1 p2 p3 p4 tf PT TW FL hps hpr ha3 hb3 hc ha hb hin i1 i2 i3 i4 hba hbb hbc NW
  go_wp2_with fail
  have hkF : ∀ q, q ≠ w1.heap.size → ((((((w4.setCell ⟨w1.heap.size, 0, none⟩ (.int .i64 chC.seg)).setCell ⟨w1.heap.size, 1, none⟩ (.slice b1 chC.ws.length d1)).setCell ⟨w1.heap.size, 2, none⟩ (.slice b2 chC.ks.length d2)).setCell ⟨w1.heap.size, 3, none⟩ (.slice b3 chC.vs.length d3)).setCell ⟨w1.heap.size, 4, none⟩ (.slice b4 chC.cs.length d4)).setCell ⟨w1.heap.size, 5, none⟩ (.int .u64 chC.laid)).heap[q]? = w4.heap[q]? := fun q hq => by rw [heap_setCell_ne _ _ _ hq, heap_setCell_ne _ _ _ hq, heap_setCell_ne _ _ _ hq, heap_setCell_ne _ _ _ hq, heap_setCell_ne _ _ _ hq, heap_setCell_ne _ _ _ hq]
  have hB5 : Below w.heap.size w ((((((w4.setCell ⟨w1.heap.size, 0, none⟩ (.int .i64 chC.seg)).setCell ⟨w1.heap.size, 1, none⟩ (.slice b1 chC.ws.length d1)).setCell ⟨w1.heap.size, 2, none⟩ (.slice b2 chC.ks.length d2)).setCell ⟨w1.heap.size, 3, none⟩ (.slice b3 chC.vs.length d3)).setCell ⟨w1.heap.size, 4, none⟩ (.slice b4 chC.cs.length d4)).setCell ⟨w1.heap.size, 5, none⟩ (.int .u64 chC.laid)) := (((((hB4.setCell (by dsimp only; omega) _).setCell (by dsimp only; omega) _).setCell (by dsimp only; omega) _).setCell (by dsimp only; omega) _).setCell (by dsimp only; omega) _).setCell (by dsimp only; omega) _
  have hz5 : ((((((w4.setCell ⟨w1.heap.size, 0, none⟩ (.int .i64 chC.seg)).setCell ⟨w1.heap.size, 1, none⟩ (.slice b1 chC.ws.length d1)).setCell ⟨w1.heap.size, 2, none⟩ (.slice b2 chC.ks.length d2)).setCell ⟨w1.heap.size, 3, none⟩ (.slice b3 chC.vs.length d3)).setCell ⟨w1.heap.size, 4, none⟩ (.slice b4 chC.cs.length d4)).setCell ⟨w1.heap.size, 5, none⟩ (.int .u64 chC.laid)).heap.size = w4.heap.size := by simp only [World.size_setCell]
  generalize ((((((w4.setCell ⟨w1.heap.size, 0, none⟩ (.int .i64 chC.seg)).setCell ⟨w1.heap.size, 1, none⟩ (.slice b1 chC.ws.length d1)).setCell ⟨w1.heap.size, 2, none⟩ (.slice b2 chC.ks.length d2)).setCell ⟨w1.heap.size, 3, none⟩ (.slice b3 chC.vs.length d3)).setCell ⟨w1.heap.size, 4, none⟩ (.slice b4 chC.cs.length d4)).setCell ⟨w1.heap.size, 5, none⟩ (.int .u64 chC.laid)) = w5 at *
  have k0 := (World.cell?_of_block (a := ⟨w.heap.size, 0, none⟩) (hkF w.heap.size (by omega))).trans c_r0
  have k1 := (World.cell?_of_block (a := ⟨w.heap.size, 1, none⟩) (hkF w.heap.size (by omega))).trans c_r1
  have k2 := (World.cell?_of_block (a := ⟨w.heap.size, 2, none⟩) (hkF w.heap.size (by omega))).trans c_r2
  have l0 := (World.frozen?_of_block (a := ⟨w.heap.size, 0, none⟩) (hkF w.heap.size (by omega))).trans f_r0
  have l1 := (World.frozen?_of_block (a := ⟨w.heap.size, 1, none⟩) (hkF w.heap.size (by omega))).trans f_r1
  have l2 := (World.frozen?_of_block (a := ⟨w.heap.size, 2, none⟩) (hkF w.heap.size (by omega))).trans f_r2
  obtain ⟨_, _, h1, i1, -⟩ := row_of_owns (owns_heap HP1.out fun j hj => by have := (HP1.out.lt j hj).1; exact hkF j (by omega))
  cases h1
  obtain ⟨_, _, h1, i2, -⟩ := row_of_owns (owns_heap HP2.out fun j hj => by have := (HP2.out.lt j hj).1; exact hkF j (by omega))
  cases h1
  obtain ⟨_, _, h1, i3, -⟩ := row_of_owns (owns_heap HP3.out fun j hj => by have := (HP3.out.lt j hj).1; exact hkF j (by omega))
  cases h1
  obtain ⟨_, _, h1, i4, -⟩ := row_of_owns (owns_heap HP4.out fun j hj => by have := (HP4.out.lt j hj).1; exact hkF j (by omega))
  cases h1
  have BI5 := Lib.hid (BI.out ⟨b1, b2, b3, b4, d1, d2, d3, d4⟩ w5 ⟨i1, i2, i3, i4, HU.out⟩)
  clear i1 i2 i3 i4 hkF HP1 HP2 HP3 HP4 t0 t1 t2 t3 t4 t5 tf0 tf1 tf2 tf3 tf4 tf5 c_r0 c_r1 c_r2 f_r0 f_r1 f_r2
  refine BI5.out.mono ?_
  rintro e w6 ⟨v, u, rfl, q1, q2, hb6⟩
  have hz6 := hb6.size
  obtain ⟨ma, mc, rfl, -⟩ := owns_news q1
  obtain ⟨ca, cc, rfl, -⟩ := owns_news q2
  replace k0 := (hb6.cell (p := ⟨w.heap.size, 0, none⟩) (by dsimp only; omega)).trans k0
  replace k1 := (hb6.cell (p := ⟨w.heap.size, 1, none⟩) (by dsimp only; omega)).trans k1
  replace k2 := (hb6.cell (p := ⟨w.heap.size, 2, none⟩) (by dsimp only; omega)).trans k2
  replace l0 := (hb6.frozen (p := ⟨w.heap.size, 0, none⟩) (by dsimp only; omega)).trans l0
  replace l1 := (hb6.frozen (p := ⟨w.heap.size, 1, none⟩) (by dsimp only; omega)).trans l1
  replace l2 := (hb6.frozen (p := ⟨w.heap.size, 2, none⟩) (by dsimp only; omega)).trans l2
  have hB6 : Below w.heap.size w w6 := below_via hb6 hB5 (by omega)
  have HQ1 := Lib.hid q1
  have HQ2 := Lib.hid q2
  have zz : w.heap.size < w6.heap.size := by omega
  have zz1 : w1.heap.size < w6.heap.size := by omega
  have zz3 : w3.heap.size ≤ w6.heap.size := by omega
  have zz4 : w4.heap.size ≤ w6.heap.size := by omega
  have zz5 : w5.heap.size ≤ w6.heap.size := by omega
  have zz6 : w.heap.size < w5.heap.size := by omega
  clear q1 q2 BI5 hz5
  go_wp2
  have hts := three_set (x := .int .i64 3) (y := .slice ma bm.length mc) (z := .slice ca bc.length cc) k0 k1 k2
  have hkE : ∀ q, q ≠ w.heap.size → (((w6.setCell ⟨w.heap.size, 0, none⟩ (.int .i64 3)).setCell ⟨w.heap.size, 1, none⟩ (.slice ma bm.length mc)).setCell ⟨w.heap.size, 2, none⟩ (.slice ca bc.length cc)).heap[q]? = w6.heap[q]? := fun q hq => by rw [heap_setCell_ne _ _ _ hq, heap_setCell_ne _ _ _ hq, heap_setCell_ne _ _ _ hq]
  have hs7 : (((w6.setCell ⟨w.heap.size, 0, none⟩ (.int .i64 3)).setCell ⟨w.heap.size, 1, none⟩ (.slice ma bm.length mc)).setCell ⟨w.heap.size, 2, none⟩ (.slice ca bc.length cc)).heap.size = w6.heap.size := by simp only [World.size_setCell]
  have hB7 : Below w.heap.size w (((w6.setCell ⟨w.heap.size, 0, none⟩ (.int .i64 3)).setCell ⟨w.heap.size, 1, none⟩ (.slice ma bm.length mc)).setCell ⟨w.heap.size, 2, none⟩ (.slice ca bc.length cc)) := ((hB6.setCell (by dsimp only; omega) _).setCell (by dsimp only; omega) _).setCell (by dsimp only; omega) _
  generalize (((w6.setCell ⟨w.heap.size, 0, none⟩ (.int .i64 3)).setCell ⟨w.heap.size, 1, none⟩ (.slice ma bm.length mc)).setCell ⟨w.heap.size, 2, none⟩ (.slice ca bc.length cc)) = w7 at *
  have hal : Below w7.heap.size w7 (w7.alloc (.cells #[.int .i64 3, .slice ma bm.length mc, .slice ca bc.length cc] 31)) := (Below.refl _ w7).alloc (Nat.le_refl _) _
  refine bodyPost_ret (results_c rfl rfl (run_loadVar_many _ Tryd.underlying31 rfl (by kernel_rfl) (three_at ((hal.cell (by dsimp only; omega)).trans hts.1) ((hal.cell (by dsimp only; omega)).trans hts.2.1) ((hal.cell (by dsimp only; omega)).trans hts.2.2)))) rfl ⟨_, _, rfl, ?_, ?_, ?_⟩
  · exact owns_base (owns_heap HQ1.out fun j hj => by have := (HQ1.out.lt j hj); exact (hal.block j (by omega)).trans (hkE j (by omega))) (by omega)
  · exact owns_base (owns_heap HQ2.out fun j hj => by have := (HQ2.out.lt j hj); exact (hal.block j (by omega)).trans (hkE j (by omega))) (by omega)
  · exact hB7.alloc (by omega) _
end Go.Proofs.YtfmoghjddfjfmaaDoor
