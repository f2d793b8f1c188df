/- Merged: Chapter, Alive. -/
import Derived.Test.YtelckhfmchnpnaaDoorSlPut
import Derived.Test.YtelckhfmchnpnaaDoorIdxCk
namespace Go.Proofs.YtelckhfmchnpnaaDoor
set_option linter.unusedVariables false
set_option linter.unusedSimpArgs false
section
open Go.RowKit

set_option maxRecDepth 100000 in
set_option maxHeartbeats 1000000 in
theorem chapter_ok (w : World) : Calls Tryd.prog 10 #[] w (FreshSl w chC) := by
  have NW := Lib.hid (fun W => slNew_core W 4 16 1 4 (by decide) (by decide) (by decide) (by decide) (by decide) (by decide) (by decide) (Lib.hid fun W' => fits_ok 4 16 W'))
  go_enter Tryd.func10, Tryd.ntmps10
  go_wp2_with fail
  refine (NW.out _).mono ?_
  rintro e w1 ⟨v1, v2, v3, v4, rfl, o1, o2, o3, o4, hb1⟩
  obtain ⟨a1, c1, rfl, i1, -, -, -, -⟩ := row_of_owns o1
  obtain ⟨a2, c2, rfl, i2, -, -, -, -⟩ := row_of_owns o2
  obtain ⟨a3, c3, rfl, i3, -, -, -, -⟩ := row_of_owns o3
  obtain ⟨a4, c4, rfl, i4, -, -, -, -⟩ := row_of_owns o4
  have hz_w1 := hb1.size
  try simp only [World.size_alloc, World.size_setCell] at hz_w1
  have c_r0 : w1.cell? ⟨w.heap.size, 0, none⟩ = some (.int .i64 0) := (hb1.cell (p := ⟨w.heap.size, 0, none⟩) (by (first | (with_reducible assumption) | omega | (simp only [World.size_alloc, World.size_setCell, World.size_drew, World.heap_drewN] <;> omega) | (simp <;> omega)))).trans (by (first | (with_reducible assumption) | ((try simp (disch := first | omega | (simp only [World.size_alloc, World.size_setCell, World.size_drew, World.heap_drewN] <;> omega) | fail) only [World.cell?_alloc_past, World.cell?_alloc_at, World.frozen?_alloc_past, World.frozen?_alloc_at, World.frozen?_setCell, World.cell?_drew, World.frozen?_drew]) <;> first | (with_reducible assumption) | rfl)))
  have f_r0 : w1.frozen? ⟨w.heap.size, 0, none⟩ = false := (hb1.frozen (p := ⟨w.heap.size, 0, none⟩) (by (first | (with_reducible assumption) | omega | (simp only [World.size_alloc, World.size_setCell, World.size_drew, World.heap_drewN] <;> omega) | (simp <;> omega)))).trans (by (first | (with_reducible assumption) | ((try simp (disch := first | omega | (simp only [World.size_alloc, World.size_setCell, World.size_drew, World.heap_drewN] <;> omega) | fail) only [World.cell?_alloc_past, World.cell?_alloc_at, World.frozen?_alloc_past, World.frozen?_alloc_at, World.frozen?_setCell, World.cell?_drew, World.frozen?_drew]) <;> first | (with_reducible assumption) | rfl)))
  have c_r1 : w1.cell? ⟨w.heap.size, 1, none⟩ = some (.slice none 0 0) := (hb1.cell (p := ⟨w.heap.size, 1, none⟩) (by (first | (with_reducible assumption) | omega | (simp only [World.size_alloc, World.size_setCell, World.size_drew, World.heap_drewN] <;> omega) | (simp <;> omega)))).trans (by (first | (with_reducible assumption) | ((try simp (disch := first | omega | (simp only [World.size_alloc, World.size_setCell, World.size_drew, World.heap_drewN] <;> omega) | fail) only [World.cell?_alloc_past, World.cell?_alloc_at, World.frozen?_alloc_past, World.frozen?_alloc_at, World.frozen?_setCell, World.cell?_drew, World.frozen?_drew]) <;> first | (with_reducible assumption) | rfl)))
  have f_r1 : w1.frozen? ⟨w.heap.size, 1, none⟩ = false := (hb1.frozen (p := ⟨w.heap.size, 1, none⟩) (by (first | (with_reducible assumption) | omega | (simp only [World.size_alloc, World.size_setCell, World.size_drew, World.heap_drewN] <;> omega) | (simp <;> omega)))).trans (by (first | (with_reducible assumption) | ((try simp (disch := first | omega | (simp only [World.size_alloc, World.size_setCell, World.size_drew, World.heap_drewN] <;> omega) | fail) only [World.cell?_alloc_past, World.cell?_alloc_at, World.frozen?_alloc_past, World.frozen?_alloc_at, World.frozen?_setCell, World.cell?_drew, World.frozen?_drew]) <;> first | (with_reducible assumption) | rfl)))
  have c_r2 : w1.cell? ⟨w.heap.size, 2, none⟩ = some (.slice none 0 0) := (hb1.cell (p := ⟨w.heap.size, 2, none⟩) (by (first | (with_reducible assumption) | omega | (simp only [World.size_alloc, World.size_setCell, World.size_drew, World.heap_drewN] <;> omega) | (simp <;> omega)))).trans (by (first | (with_reducible assumption) | ((try simp (disch := first | omega | (simp only [World.size_alloc, World.size_setCell, World.size_drew, World.heap_drewN] <;> omega) | fail) only [World.cell?_alloc_past, World.cell?_alloc_at, World.frozen?_alloc_past, World.frozen?_alloc_at, World.frozen?_setCell, World.cell?_drew, World.frozen?_drew]) <;> first | (with_reducible assumption) | rfl)))
  have f_r2 : w1.frozen? ⟨w.heap.size, 2, none⟩ = false := (hb1.frozen (p := ⟨w.heap.size, 2, none⟩) (by (first | (with_reducible assumption) | omega | (simp only [World.size_alloc, World.size_setCell, World.size_drew, World.heap_drewN] <;> omega) | (simp <;> omega)))).trans (by (first | (with_reducible assumption) | ((try simp (disch := first | omega | (simp only [World.size_alloc, World.size_setCell, World.size_drew, World.heap_drewN] <;> omega) | fail) only [World.cell?_alloc_past, World.cell?_alloc_at, World.frozen?_alloc_past, World.frozen?_alloc_at, World.frozen?_setCell, World.cell?_drew, World.frozen?_drew]) <;> first | (with_reducible assumption) | rfl)))
  have c_r3 : w1.cell? ⟨w.heap.size, 3, none⟩ = some (.slice none 0 0) := (hb1.cell (p := ⟨w.heap.size, 3, none⟩) (by (first | (with_reducible assumption) | omega | (simp only [World.size_alloc, World.size_setCell, World.size_drew, World.heap_drewN] <;> omega) | (simp <;> omega)))).trans (by (first | (with_reducible assumption) | ((try simp (disch := first | omega | (simp only [World.size_alloc, World.size_setCell, World.size_drew, World.heap_drewN] <;> omega) | fail) only [World.cell?_alloc_past, World.cell?_alloc_at, World.frozen?_alloc_past, World.frozen?_alloc_at, World.frozen?_setCell, World.cell?_drew, World.frozen?_drew]) <;> first | (with_reducible assumption) | rfl)))
  have f_r3 : w1.frozen? ⟨w.heap.size, 3, none⟩ = false := (hb1.frozen (p := ⟨w.heap.size, 3, none⟩) (by (first | (with_reducible assumption) | omega | (simp only [World.size_alloc, World.size_setCell, World.size_drew, World.heap_drewN] <;> omega) | (simp <;> omega)))).trans (by (first | (with_reducible assumption) | ((try simp (disch := first | omega | (simp only [World.size_alloc, World.size_setCell, World.size_drew, World.heap_drewN] <;> omega) | fail) only [World.cell?_alloc_past, World.cell?_alloc_at, World.frozen?_alloc_past, World.frozen?_alloc_at, World.frozen?_setCell, World.cell?_drew, World.frozen?_drew]) <;> first | (with_reducible assumption) | rfl)))
  have c_r4 : w1.cell? ⟨w.heap.size, 4, none⟩ = some (.slice none 0 0) := (hb1.cell (p := ⟨w.heap.size, 4, none⟩) (by (first | (with_reducible assumption) | omega | (simp only [World.size_alloc, World.size_setCell, World.size_drew, World.heap_drewN] <;> omega) | (simp <;> omega)))).trans (by (first | (with_reducible assumption) | ((try simp (disch := first | omega | (simp only [World.size_alloc, World.size_setCell, World.size_drew, World.heap_drewN] <;> omega) | fail) only [World.cell?_alloc_past, World.cell?_alloc_at, World.frozen?_alloc_past, World.frozen?_alloc_at, World.frozen?_setCell, World.cell?_drew, World.frozen?_drew]) <;> first | (with_reducible assumption) | rfl)))
  have f_r4 : w1.frozen? ⟨w.heap.size, 4, none⟩ = false := (hb1.frozen (p := ⟨w.heap.size, 4, none⟩) (by (first | (with_reducible assumption) | omega | (simp only [World.size_alloc, World.size_setCell, World.size_drew, World.heap_drewN] <;> omega) | (simp <;> omega)))).trans (by (first | (with_reducible assumption) | ((try simp (disch := first | omega | (simp only [World.size_alloc, World.size_setCell, World.size_drew, World.heap_drewN] <;> omega) | fail) only [World.cell?_alloc_past, World.cell?_alloc_at, World.frozen?_alloc_past, World.frozen?_alloc_at, World.frozen?_setCell, World.cell?_drew, World.frozen?_drew]) <;> first | (with_reducible assumption) | rfl)))
  have c_r5 : w1.cell? ⟨w.heap.size, 5, none⟩ = some (.int .u64 0) := (hb1.cell (p := ⟨w.heap.size, 5, none⟩) (by (first | (with_reducible assumption) | omega | (simp only [World.size_alloc, World.size_setCell, World.size_drew, World.heap_drewN] <;> omega) | (simp <;> omega)))).trans (by (first | (with_reducible assumption) | ((try simp (disch := first | omega | (simp only [World.size_alloc, World.size_setCell, World.size_drew, World.heap_drewN] <;> omega) | fail) only [World.cell?_alloc_past, World.cell?_alloc_at, World.frozen?_alloc_past, World.frozen?_alloc_at, World.frozen?_setCell, World.cell?_drew, World.frozen?_drew]) <;> first | (with_reducible assumption) | rfl)))
  have f_r5 : w1.frozen? ⟨w.heap.size, 5, none⟩ = false := (hb1.frozen (p := ⟨w.heap.size, 5, none⟩) (by (first | (with_reducible assumption) | omega | (simp only [World.size_alloc, World.size_setCell, World.size_drew, World.heap_drewN] <;> omega) | (simp <;> omega)))).trans (by (first | (with_reducible assumption) | ((try simp (disch := first | omega | (simp only [World.size_alloc, World.size_setCell, World.size_drew, World.heap_drewN] <;> omega) | fail) only [World.cell?_alloc_past, World.cell?_alloc_at, World.frozen?_alloc_past, World.frozen?_alloc_at, World.frozen?_setCell, World.cell?_drew, World.frozen?_drew]) <;> first | (with_reducible assumption) | rfl)))
  have z_r : w.heap.size < w1.heap.size := by omega
  clear o1 o2 o3 o4
  go_wp2_with fail
  have hB1 : Below w.heap.size w w1 := by (repeat (first | (with_reducible exact Below.refl _ _) | (with_reducible assumption) | (with_reducible exact Hid.out (by with_reducible assumption)) | (with_reducible refine Below.alloc ?_ ?_ _) | (with_reducible refine Below.setCell ?_ ?_ _) | (with_reducible refine below_drewN ?_ _) | (with_reducible refine Below.drew ?_) | (with_reducible refine below_via (by with_reducible assumption) ?_ ?_) | (first | (with_reducible assumption) | omega | (simp only [World.size_alloc, World.size_setCell, World.size_drew, World.heap_drewN] <;> omega) | (simp <;> omega))))
  have ha := alloc_new w1 (.cells #[.int .i64 (zeroSl 4 16 1 4).seg, .slice a1 (zeroSl 4 16 1 4).ws.length c1, .slice a2 (zeroSl 4 16 1 4).ks.length c2, .slice a3 (zeroSl 4 16 1 4).vs.length c3, .slice a4 (zeroSl 4 16 1 4).cs.length c4, .int .u64 (zeroSl 4 16 1 4).laid] 27)
  have hba : Below w1.heap.size w1 (w1.alloc (.cells #[.int .i64 (zeroSl 4 16 1 4).seg, .slice a1 (zeroSl 4 16 1 4).ws.length c1, .slice a2 (zeroSl 4 16 1 4).ks.length c2, .slice a3 (zeroSl 4 16 1 4).vs.length c3, .slice a4 (zeroSl 4 16 1 4).cs.length c4, .int .u64 (zeroSl 4 16 1 4).laid] 27)) := (Below.refl _ _).alloc (Nat.le_refl _) _
  have hsa : (w1.alloc (.cells #[.int .i64 (zeroSl 4 16 1 4).seg, .slice a1 (zeroSl 4 16 1 4).ws.length c1, .slice a2 (zeroSl 4 16 1 4).ks.length c2, .slice a3 (zeroSl 4 16 1 4).vs.length c3, .slice a4 (zeroSl 4 16 1 4).cs.length c4, .int .u64 (zeroSl 4 16 1 4).laid] 27)).heap.size = w1.heap.size + 1 := by simp
  generalize w1.alloc (.cells #[.int .i64 (zeroSl 4 16 1 4).seg, .slice a1 (zeroSl 4 16 1 4).ws.length c1, .slice a2 (zeroSl 4 16 1 4).ks.length c2, .slice a3 (zeroSl 4 16 1 4).vs.length c3, .slice a4 (zeroSl 4 16 1 4).cs.length c4, .int .u64 (zeroSl 4 16 1 4).laid] 27) = wa at *
  have hb := alloc_new wa (.cells #[.int .i64 1, .int .i64 0, .int .i64 5, .int .i64 0, .int .i64 7, .int .i64 0, .int .i64 9, .int .i64 0, .int .i64 12, .int .i64 0] 60)
  have hbb : Below wa.heap.size wa (wa.alloc (.cells #[.int .i64 1, .int .i64 0, .int .i64 5, .int .i64 0, .int .i64 7, .int .i64 0, .int .i64 9, .int .i64 0, .int .i64 12, .int .i64 0] 60)) := (Below.refl _ _).alloc (Nat.le_refl _) _
  have hsb : (wa.alloc (.cells #[.int .i64 1, .int .i64 0, .int .i64 5, .int .i64 0, .int .i64 7, .int .i64 0, .int .i64 9, .int .i64 0, .int .i64 12, .int .i64 0] 60)).heap.size = wa.heap.size + 1 := by simp
  generalize wa.alloc (.cells #[.int .i64 1, .int .i64 0, .int .i64 5, .int .i64 0, .int .i64 7, .int .i64 0, .int .i64 9, .int .i64 0, .int .i64 12, .int .i64 0] 60) = wb at *
  have hc := alloc_new wb (.cells #[.int .i64 0, .int .i64 3, .int .i64 9, .int .i64 12, .int .i64 13] 3)
  have hbc : Below wb.heap.size wb (wb.alloc (.cells #[.int .i64 0, .int .i64 3, .int .i64 9, .int .i64 12, .int .i64 13] 3)) := (Below.refl _ _).alloc (Nat.le_refl _) _
  have hsc : (wb.alloc (.cells #[.int .i64 0, .int .i64 3, .int .i64 9, .int .i64 12, .int .i64 13] 3)).heap.size = wb.heap.size + 1 := by simp
  generalize wb.alloc (.cells #[.int .i64 0, .int .i64 3, .int .i64 9, .int .i64 12, .int .i64 13] 3) = w3 at *
  have ha3 := (hbc.block _ (by omega)).trans ((hbb.block w1.heap.size (by omega)).trans ha)
  have hb3 := (hbc.block _ (by omega)).trans hb
  rw [hsa] at hb3
  rw [hsb, hsa] at hc
  have hps : IsRow .i64 w3 (some ⟨w1.heap.size + 1 + 1, 0, none⟩) (ints chPs) := row_cells hc rfl
  have hpr : IsRow .i64 w3 (some ⟨w1.heap.size + 1, 0, none⟩) (prI chL) := row_cells hb3 rfl
  have h31 : Below w1.heap.size w1 w3 := hba.trans ((hbb.mono (by omega)).trans (hbc.mono (by omega)))
  have hin : SlIn w3 chZ ⟨a1, a2, a3, a4, c1, c2, c3, c4⟩ := chZ_in (i1.below h31) (i2.below h31) (i3.below h31) (i4.below h31)
  have PT := Lib.hid (fun W (hb : Below w3.heap.size w3 W) => part_ok chZ ⟨a1, a2, a3, a4, c1, c2, c3, c4⟩ (by decide) (by decide) 0 16 W (hin.below hb))
  rw [chZ_part] at PT
  have TW := Lib.hid (fun W (hb : Below w3.heap.size w3 W) => slTwin_ok chZ ⟨a1, a2, a3, a4, c1, c2, c3, c4⟩ W (hin.below hb) (by decide) (by decide) (by decide) (by decide))
  have FL := slFill_core w3 4 a1 a2 a3 a4 c1 c2 c3 c4 1 16 4 0 chZ 0 16 5 4 chPs chL _ _ 5 5 rfl rfl rfl rfl rfl rfl (by decide) (by decide) (by decide) (by decide) (by decide) (by decide) rfl (by decide) (by decide) (by decide) (by decide) (by decide) rfl rfl (by decide) (by decide) chZ_okt chC_okl (Lib.hid hps) (Lib.hid hpr) PT TW
  have hBw3 : Below w.heap.size w w3 := below_via h31 hB1 (by omega)
  obtain ⟨u0, u1, u2, u3, u4, u5, t0, t1, t2, t3, t4, t5, tf⟩ := box_six ha3 rfl
  have hz_w3 := h31.size
  try simp only [World.size_alloc, World.size_setCell] at hz_w3
  replace c_r0 : w3.cell? ⟨w.heap.size, 0, none⟩ = some (.int .i64 0) := (h31.cell (p := ⟨w.heap.size, 0, none⟩) (by (first | (with_reducible assumption) | omega | (simp only [World.size_alloc, World.size_setCell, World.size_drew, World.heap_drewN] <;> omega) | (simp <;> omega)))).trans (by (first | (with_reducible assumption) | ((try simp (disch := first | omega | (simp only [World.size_alloc, World.size_setCell, World.size_drew, World.heap_drewN] <;> omega) | fail) only [World.cell?_alloc_past, World.cell?_alloc_at, World.frozen?_alloc_past, World.frozen?_alloc_at, World.frozen?_setCell, World.cell?_drew, World.frozen?_drew]) <;> first | (with_reducible assumption) | rfl)))
  replace f_r0 : w3.frozen? ⟨w.heap.size, 0, none⟩ = false := (h31.frozen (p := ⟨w.heap.size, 0, none⟩) (by (first | (with_reducible assumption) | omega | (simp only [World.size_alloc, World.size_setCell, World.size_drew, World.heap_drewN] <;> omega) | (simp <;> omega)))).trans (by (first | (with_reducible assumption) | ((try simp (disch := first | omega | (simp only [World.size_alloc, World.size_setCell, World.size_drew, World.heap_drewN] <;> omega) | fail) only [World.cell?_alloc_past, World.cell?_alloc_at, World.frozen?_alloc_past, World.frozen?_alloc_at, World.frozen?_setCell, World.cell?_drew, World.frozen?_drew]) <;> first | (with_reducible assumption) | rfl)))
  replace c_r1 : w3.cell? ⟨w.heap.size, 1, none⟩ = some (.slice none 0 0) := (h31.cell (p := ⟨w.heap.size, 1, none⟩) (by (first | (with_reducible assumption) | omega | (simp only [World.size_alloc, World.size_setCell, World.size_drew, World.heap_drewN] <;> omega) | (simp <;> omega)))).trans (by (first | (with_reducible assumption) | ((try simp (disch := first | omega | (simp only [World.size_alloc, World.size_setCell, World.size_drew, World.heap_drewN] <;> omega) | fail) only [World.cell?_alloc_past, World.cell?_alloc_at, World.frozen?_alloc_past, World.frozen?_alloc_at, World.frozen?_setCell, World.cell?_drew, World.frozen?_drew]) <;> first | (with_reducible assumption) | rfl)))
  replace f_r1 : w3.frozen? ⟨w.heap.size, 1, none⟩ = false := (h31.frozen (p := ⟨w.heap.size, 1, none⟩) (by (first | (with_reducible assumption) | omega | (simp only [World.size_alloc, World.size_setCell, World.size_drew, World.heap_drewN] <;> omega) | (simp <;> omega)))).trans (by (first | (with_reducible assumption) | ((try simp (disch := first | omega | (simp only [World.size_alloc, World.size_setCell, World.size_drew, World.heap_drewN] <;> omega) | fail) only [World.cell?_alloc_past, World.cell?_alloc_at, World.frozen?_alloc_past, World.frozen?_alloc_at, World.frozen?_setCell, World.cell?_drew, World.frozen?_drew]) <;> first | (with_reducible assumption) | rfl)))
  replace c_r2 : w3.cell? ⟨w.heap.size, 2, none⟩ = some (.slice none 0 0) := (h31.cell (p := ⟨w.heap.size, 2, none⟩) (by (first | (with_reducible assumption) | omega | (simp only [World.size_alloc, World.size_setCell, World.size_drew, World.heap_drewN] <;> omega) | (simp <;> omega)))).trans (by (first | (with_reducible assumption) | ((try simp (disch := first | omega | (simp only [World.size_alloc, World.size_setCell, World.size_drew, World.heap_drewN] <;> omega) | fail) only [World.cell?_alloc_past, World.cell?_alloc_at, World.frozen?_alloc_past, World.frozen?_alloc_at, World.frozen?_setCell, World.cell?_drew, World.frozen?_drew]) <;> first | (with_reducible assumption) | rfl)))
  replace f_r2 : w3.frozen? ⟨w.heap.size, 2, none⟩ = false := (h31.frozen (p := ⟨w.heap.size, 2, none⟩) (by (first | (with_reducible assumption) | omega | (simp only [World.size_alloc, World.size_setCell, World.size_drew, World.heap_drewN] <;> omega) | (simp <;> omega)))).trans (by (first | (with_reducible assumption) | ((try simp (disch := first | omega | (simp only [World.size_alloc, World.size_setCell, World.size_drew, World.heap_drewN] <;> omega) | fail) only [World.cell?_alloc_past, World.cell?_alloc_at, World.frozen?_alloc_past, World.frozen?_alloc_at, World.frozen?_setCell, World.cell?_drew, World.frozen?_drew]) <;> first | (with_reducible assumption) | rfl)))
  replace c_r3 : w3.cell? ⟨w.heap.size, 3, none⟩ = some (.slice none 0 0) := (h31.cell (p := ⟨w.heap.size, 3, none⟩) (by (first | (with_reducible assumption) | omega | (simp only [World.size_alloc, World.size_setCell, World.size_drew, World.heap_drewN] <;> omega) | (simp <;> omega)))).trans (by (first | (with_reducible assumption) | ((try simp (disch := first | omega | (simp only [World.size_alloc, World.size_setCell, World.size_drew, World.heap_drewN] <;> omega) | fail) only [World.cell?_alloc_past, World.cell?_alloc_at, World.frozen?_alloc_past, World.frozen?_alloc_at, World.frozen?_setCell, World.cell?_drew, World.frozen?_drew]) <;> first | (with_reducible assumption) | rfl)))
  replace f_r3 : w3.frozen? ⟨w.heap.size, 3, none⟩ = false := (h31.frozen (p := ⟨w.heap.size, 3, none⟩) (by (first | (with_reducible assumption) | omega | (simp only [World.size_alloc, World.size_setCell, World.size_drew, World.heap_drewN] <;> omega) | (simp <;> omega)))).trans (by (first | (with_reducible assumption) | ((try simp (disch := first | omega | (simp only [World.size_alloc, World.size_setCell, World.size_drew, World.heap_drewN] <;> omega) | fail) only [World.cell?_alloc_past, World.cell?_alloc_at, World.frozen?_alloc_past, World.frozen?_alloc_at, World.frozen?_setCell, World.cell?_drew, World.frozen?_drew]) <;> first | (with_reducible assumption) | rfl)))
  replace c_r4 : w3.cell? ⟨w.heap.size, 4, none⟩ = some (.slice none 0 0) := (h31.cell (p := ⟨w.heap.size, 4, none⟩) (by (first | (with_reducible assumption) | omega | (simp only [World.size_alloc, World.size_setCell, World.size_drew, World.heap_drewN] <;> omega) | (simp <;> omega)))).trans (by (first | (with_reducible assumption) | ((try simp (disch := first | omega | (simp only [World.size_alloc, World.size_setCell, World.size_drew, World.heap_drewN] <;> omega) | fail) only [World.cell?_alloc_past, World.cell?_alloc_at, World.frozen?_alloc_past, World.frozen?_alloc_at, World.frozen?_setCell, World.cell?_drew, World.frozen?_drew]) <;> first | (with_reducible assumption) | rfl)))
  replace f_r4 : w3.frozen? ⟨w.heap.size, 4, none⟩ = false := (h31.frozen (p := ⟨w.heap.size, 4, none⟩) (by (first | (with_reducible assumption) | omega | (simp only [World.size_alloc, World.size_setCell, World.size_drew, World.heap_drewN] <;> omega) | (simp <;> omega)))).trans (by (first | (with_reducible assumption) | ((try simp (disch := first | omega | (simp only [World.size_alloc, World.size_setCell, World.size_drew, World.heap_drewN] <;> omega) | fail) only [World.cell?_alloc_past, World.cell?_alloc_at, World.frozen?_alloc_past, World.frozen?_alloc_at, World.frozen?_setCell, World.cell?_drew, World.frozen?_drew]) <;> first | (with_reducible assumption) | rfl)))
  replace c_r5 : w3.cell? ⟨w.heap.size, 5, none⟩ = some (.int .u64 0) := (h31.cell (p := ⟨w.heap.size, 5, none⟩) (by (first | (with_reducible assumption) | omega | (simp only [World.size_alloc, World.size_setCell, World.size_drew, World.heap_drewN] <;> omega) | (simp <;> omega)))).trans (by (first | (with_reducible assumption) | ((try simp (disch := first | omega | (simp only [World.size_alloc, World.size_setCell, World.size_drew, World.heap_drewN] <;> omega) | fail) only [World.cell?_alloc_past, World.cell?_alloc_at, World.frozen?_alloc_past, World.frozen?_alloc_at, World.frozen?_setCell, World.cell?_drew, World.frozen?_drew]) <;> first | (with_reducible assumption) | rfl)))
  replace f_r5 : w3.frozen? ⟨w.heap.size, 5, none⟩ = false := (h31.frozen (p := ⟨w.heap.size, 5, none⟩) (by (first | (with_reducible assumption) | omega | (simp only [World.size_alloc, World.size_setCell, World.size_drew, World.heap_drewN] <;> omega) | (simp <;> omega)))).trans (by (first | (with_reducible assumption) | ((try simp (disch := first | omega | (simp only [World.size_alloc, World.size_setCell, World.size_drew, World.heap_drewN] <;> omega) | fail) only [World.cell?_alloc_past, World.cell?_alloc_at, World.frozen?_alloc_past, World.frozen?_alloc_at, World.frozen?_setCell, World.cell?_drew, World.frozen?_drew]) <;> first | (with_reducible assumption) | rfl)))
  replace z_r : w.heap.size < w3.heap.size := by omega
  change Calls _ _ _ _ (FreshSl2 w3 chC _) at FL
  have tf0 := tf 0
  have tf1 := tf 1
  have tf2 := tf 2
  have tf3 := tf 3
  have tf4 := tf 4
  have tf5 := tf 5
  refine FL.mono ?_
  rintro e w4 ⟨v1, v2, v3, v4, rfl, p1, p2, p3, p4, hb4⟩
  obtain ⟨b1, d1, rfl, -⟩ := owns_news p1
  obtain ⟨b2, d2, rfl, -⟩ := owns_news p2
  obtain ⟨b3, d3, rfl, -⟩ := owns_news p3
  obtain ⟨b4, d4, rfl, -⟩ := owns_news p4
  have hz4 := hb4.size
  replace t0 := (hb4.cell (p := ⟨w1.heap.size, 0, none⟩) (by dsimp only; omega)).trans t0
  replace t1 := (hb4.cell (p := ⟨w1.heap.size, 1, none⟩) (by dsimp only; omega)).trans t1
  replace t2 := (hb4.cell (p := ⟨w1.heap.size, 2, none⟩) (by dsimp only; omega)).trans t2
  replace t3 := (hb4.cell (p := ⟨w1.heap.size, 3, none⟩) (by dsimp only; omega)).trans t3
  replace t4 := (hb4.cell (p := ⟨w1.heap.size, 4, none⟩) (by dsimp only; omega)).trans t4
  replace t5 := (hb4.cell (p := ⟨w1.heap.size, 5, none⟩) (by dsimp only; omega)).trans t5
  replace tf0 := (hb4.frozen (p := ⟨w1.heap.size, 0, none⟩) (by dsimp only; omega)).trans tf0
  replace tf1 := (hb4.frozen (p := ⟨w1.heap.size, 1, none⟩) (by dsimp only; omega)).trans tf1
  replace tf2 := (hb4.frozen (p := ⟨w1.heap.size, 2, none⟩) (by dsimp only; omega)).trans tf2
  replace tf3 := (hb4.frozen (p := ⟨w1.heap.size, 3, none⟩) (by dsimp only; omega)).trans tf3
  replace tf4 := (hb4.frozen (p := ⟨w1.heap.size, 4, none⟩) (by dsimp only; omega)).trans tf4
  replace tf5 := (hb4.frozen (p := ⟨w1.heap.size, 5, none⟩) (by dsimp only; omega)).trans tf5
  have hz_w4 := hb4.size
  try simp only [World.size_alloc, World.size_setCell] at hz_w4
  replace c_r0 : w4.cell? ⟨w.heap.size, 0, none⟩ = some (.int .i64 0) := (hb4.cell (p := ⟨w.heap.size, 0, none⟩) (by (first | (with_reducible assumption) | omega | (simp only [World.size_alloc, World.size_setCell, World.size_drew, World.heap_drewN] <;> omega) | (simp <;> omega)))).trans (by (first | (with_reducible assumption) | ((try simp (disch := first | omega | (simp only [World.size_alloc, World.size_setCell, World.size_drew, World.heap_drewN] <;> omega) | fail) only [World.cell?_alloc_past, World.cell?_alloc_at, World.frozen?_alloc_past, World.frozen?_alloc_at, World.frozen?_setCell, World.cell?_drew, World.frozen?_drew]) <;> first | (with_reducible assumption) | rfl)))
  replace f_r0 : w4.frozen? ⟨w.heap.size, 0, none⟩ = false := (hb4.frozen (p := ⟨w.heap.size, 0, none⟩) (by (first | (with_reducible assumption) | omega | (simp only [World.size_alloc, World.size_setCell, World.size_drew, World.heap_drewN] <;> omega) | (simp <;> omega)))).trans (by (first | (with_reducible assumption) | ((try simp (disch := first | omega | (simp only [World.size_alloc, World.size_setCell, World.size_drew, World.heap_drewN] <;> omega) | fail) only [World.cell?_alloc_past, World.cell?_alloc_at, World.frozen?_alloc_past, World.frozen?_alloc_at, World.frozen?_setCell, World.cell?_drew, World.frozen?_drew]) <;> first | (with_reducible assumption) | rfl)))
  replace c_r1 : w4.cell? ⟨w.heap.size, 1, none⟩ = some (.slice none 0 0) := (hb4.cell (p := ⟨w.heap.size, 1, none⟩) (by (first | (with_reducible assumption) | omega | (simp only [World.size_alloc, World.size_setCell, World.size_drew, World.heap_drewN] <;> omega) | (simp <;> omega)))).trans (by (first | (with_reducible assumption) | ((try simp (disch := first | omega | (simp only [World.size_alloc, World.size_setCell, World.size_drew, World.heap_drewN] <;> omega) | fail) only [World.cell?_alloc_past, World.cell?_alloc_at, World.frozen?_alloc_past, World.frozen?_alloc_at, World.frozen?_setCell, World.cell?_drew, World.frozen?_drew]) <;> first | (with_reducible assumption) | rfl)))
  replace f_r1 : w4.frozen? ⟨w.heap.size, 1, none⟩ = false := (hb4.frozen (p := ⟨w.heap.size, 1, none⟩) (by (first | (with_reducible assumption) | omega | (simp only [World.size_alloc, World.size_setCell, World.size_drew, World.heap_drewN] <;> omega) | (simp <;> omega)))).trans (by (first | (with_reducible assumption) | ((try simp (disch := first | omega | (simp only [World.size_alloc, World.size_setCell, World.size_drew, World.heap_drewN] <;> omega) | fail) only [World.cell?_alloc_past, World.cell?_alloc_at, World.frozen?_alloc_past, World.frozen?_alloc_at, World.frozen?_setCell, World.cell?_drew, World.frozen?_drew]) <;> first | (with_reducible assumption) | rfl)))
  replace c_r2 : w4.cell? ⟨w.heap.size, 2, none⟩ = some (.slice none 0 0) := (hb4.cell (p := ⟨w.heap.size, 2, none⟩) (by (first | (with_reducible assumption) | omega | (simp only [World.size_alloc, World.size_setCell, World.size_drew, World.heap_drewN] <;> omega) | (simp <;> omega)))).trans (by (first | (with_reducible assumption) | ((try simp (disch := first | omega | (simp only [World.size_alloc, World.size_setCell, World.size_drew, World.heap_drewN] <;> omega) | fail) only [World.cell?_alloc_past, World.cell?_alloc_at, World.frozen?_alloc_past, World.frozen?_alloc_at, World.frozen?_setCell, World.cell?_drew, World.frozen?_drew]) <;> first | (with_reducible assumption) | rfl)))
  replace f_r2 : w4.frozen? ⟨w.heap.size, 2, none⟩ = false := (hb4.frozen (p := ⟨w.heap.size, 2, none⟩) (by (first | (with_reducible assumption) | omega | (simp only [World.size_alloc, World.size_setCell, World.size_drew, World.heap_drewN] <;> omega) | (simp <;> omega)))).trans (by (first | (with_reducible assumption) | ((try simp (disch := first | omega | (simp only [World.size_alloc, World.size_setCell, World.size_drew, World.heap_drewN] <;> omega) | fail) only [World.cell?_alloc_past, World.cell?_alloc_at, World.frozen?_alloc_past, World.frozen?_alloc_at, World.frozen?_setCell, World.cell?_drew, World.frozen?_drew]) <;> first | (with_reducible assumption) | rfl)))
  replace c_r3 : w4.cell? ⟨w.heap.size, 3, none⟩ = some (.slice none 0 0) := (hb4.cell (p := ⟨w.heap.size, 3, none⟩) (by (first | (with_reducible assumption) | omega | (simp only [World.size_alloc, World.size_setCell, World.size_drew, World.heap_drewN] <;> omega) | (simp <;> omega)))).trans (by (first | (with_reducible assumption) | ((try simp (disch := first | omega | (simp only [World.size_alloc, World.size_setCell, World.size_drew, World.heap_drewN] <;> omega) | fail) only [World.cell?_alloc_past, World.cell?_alloc_at, World.frozen?_alloc_past, World.frozen?_alloc_at, World.frozen?_setCell, World.cell?_drew, World.frozen?_drew]) <;> first | (with_reducible assumption) | rfl)))
  replace f_r3 : w4.frozen? ⟨w.heap.size, 3, none⟩ = false := (hb4.frozen (p := ⟨w.heap.size, 3, none⟩) (by (first | (with_reducible assumption) | omega | (simp only [World.size_alloc, World.size_setCell, World.size_drew, World.heap_drewN] <;> omega) | (simp <;> omega)))).trans (by (first | (with_reducible assumption) | ((try simp (disch := first | omega | (simp only [World.size_alloc, World.size_setCell, World.size_drew, World.heap_drewN] <;> omega) | fail) only [World.cell?_alloc_past, World.cell?_alloc_at, World.frozen?_alloc_past, World.frozen?_alloc_at, World.frozen?_setCell, World.cell?_drew, World.frozen?_drew]) <;> first | (with_reducible assumption) | rfl)))
  replace c_r4 : w4.cell? ⟨w.heap.size, 4, none⟩ = some (.slice none 0 0) := (hb4.cell (p := ⟨w.heap.size, 4, none⟩) (by (first | (with_reducible assumption) | omega | (simp only [World.size_alloc, World.size_setCell, World.size_drew, World.heap_drewN] <;> omega) | (simp <;> omega)))).trans (by (first | (with_reducible assumption) | ((try simp (disch := first | omega | (simp only [World.size_alloc, World.size_setCell, World.size_drew, World.heap_drewN] <;> omega) | fail) only [World.cell?_alloc_past, World.cell?_alloc_at, World.frozen?_alloc_past, World.frozen?_alloc_at, World.frozen?_setCell, World.cell?_drew, World.frozen?_drew]) <;> first | (with_reducible assumption) | rfl)))
  replace f_r4 : w4.frozen? ⟨w.heap.size, 4, none⟩ = false := (hb4.frozen (p := ⟨w.heap.size, 4, none⟩) (by (first | (with_reducible assumption) | omega | (simp only [World.size_alloc, World.size_setCell, World.size_drew, World.heap_drewN] <;> omega) | (simp <;> omega)))).trans (by (first | (with_reducible assumption) | ((try simp (disch := first | omega | (simp only [World.size_alloc, World.size_setCell, World.size_drew, World.heap_drewN] <;> omega) | fail) only [World.cell?_alloc_past, World.cell?_alloc_at, World.frozen?_alloc_past, World.frozen?_alloc_at, World.frozen?_setCell, World.cell?_drew, World.frozen?_drew]) <;> first | (with_reducible assumption) | rfl)))
  replace c_r5 : w4.cell? ⟨w.heap.size, 5, none⟩ = some (.int .u64 0) := (hb4.cell (p := ⟨w.heap.size, 5, none⟩) (by (first | (with_reducible assumption) | omega | (simp only [World.size_alloc, World.size_setCell, World.size_drew, World.heap_drewN] <;> omega) | (simp <;> omega)))).trans (by (first | (with_reducible assumption) | ((try simp (disch := first | omega | (simp only [World.size_alloc, World.size_setCell, World.size_drew, World.heap_drewN] <;> omega) | fail) only [World.cell?_alloc_past, World.cell?_alloc_at, World.frozen?_alloc_past, World.frozen?_alloc_at, World.frozen?_setCell, World.cell?_drew, World.frozen?_drew]) <;> first | (with_reducible assumption) | rfl)))
  replace f_r5 : w4.frozen? ⟨w.heap.size, 5, none⟩ = false := (hb4.frozen (p := ⟨w.heap.size, 5, none⟩) (by (first | (with_reducible assumption) | omega | (simp only [World.size_alloc, World.size_setCell, World.size_drew, World.heap_drewN] <;> omega) | (simp <;> omega)))).trans (by (first | (with_reducible assumption) | ((try simp (disch := first | omega | (simp only [World.size_alloc, World.size_setCell, World.size_drew, World.heap_drewN] <;> omega) | fail) only [World.cell?_alloc_past, World.cell?_alloc_at, World.frozen?_alloc_past, World.frozen?_alloc_at, World.frozen?_setCell, World.cell?_drew, World.frozen?_drew]) <;> first | (with_reducible assumption) | rfl)))
  replace z_r : w.heap.size < w4.heap.size := by omega
  have hB4 : Below w.heap.size w w4 := below_via hb4 hBw3 (by omega)
  have HP1 := Lib.hid p1
  have HP2 := Lib.hid p2
  have HP3 := Lib.hid p3
  have HP4 := Lib.hid p4
  clear p1 p2 p3 p4 tf PT TW FL hps hpr ha3 hb3 hc ha hb hin i1 i2 i3 i4 hba hbb hbc NW
  go_wp2
  have hkF : ∀ q, q ≠ w1.heap.size → ((((((w4.setCell ⟨w1.heap.size, 0, none⟩ (.int .i64 chC.seg)).setCell ⟨w1.heap.size, 1, none⟩ (.slice b1 chC.ws.length d1)).setCell ⟨w1.heap.size, 2, none⟩ (.slice b2 chC.ks.length d2)).setCell ⟨w1.heap.size, 3, none⟩ (.slice b3 chC.vs.length d3)).setCell ⟨w1.heap.size, 4, none⟩ (.slice b4 chC.cs.length d4)).setCell ⟨w1.heap.size, 5, none⟩ (.int .u64 chC.laid)).heap[q]? = w4.heap[q]? := fun q hq => by rw [heap_setCell_ne _ _ _ hq, heap_setCell_ne _ _ _ hq, heap_setCell_ne _ _ _ hq, heap_setCell_ne _ _ _ hq, heap_setCell_ne _ _ _ hq, heap_setCell_ne _ _ _ hq]
  have hB5 : Below w.heap.size w ((((((w4.setCell ⟨w1.heap.size, 0, none⟩ (.int .i64 chC.seg)).setCell ⟨w1.heap.size, 1, none⟩ (.slice b1 chC.ws.length d1)).setCell ⟨w1.heap.size, 2, none⟩ (.slice b2 chC.ks.length d2)).setCell ⟨w1.heap.size, 3, none⟩ (.slice b3 chC.vs.length d3)).setCell ⟨w1.heap.size, 4, none⟩ (.slice b4 chC.cs.length d4)).setCell ⟨w1.heap.size, 5, none⟩ (.int .u64 chC.laid)) := (((((hB4.setCell (by dsimp only; omega) _).setCell (by dsimp only; omega) _).setCell (by dsimp only; omega) _).setCell (by dsimp only; omega) _).setCell (by dsimp only; omega) _).setCell (by dsimp only; omega) _
  generalize ((((((w4.setCell ⟨w1.heap.size, 0, none⟩ (.int .i64 chC.seg)).setCell ⟨w1.heap.size, 1, none⟩ (.slice b1 chC.ws.length d1)).setCell ⟨w1.heap.size, 2, none⟩ (.slice b2 chC.ks.length d2)).setCell ⟨w1.heap.size, 3, none⟩ (.slice b3 chC.vs.length d3)).setCell ⟨w1.heap.size, 4, none⟩ (.slice b4 chC.cs.length d4)).setCell ⟨w1.heap.size, 5, none⟩ (.int .u64 chC.laid)) = w5 at *
  have k0 := (World.cell?_of_block (a := ⟨w.heap.size, 0, none⟩) (hkF w.heap.size (by omega))).trans c_r0
  have k1 := (World.cell?_of_block (a := ⟨w.heap.size, 1, none⟩) (hkF w.heap.size (by omega))).trans c_r1
  have k2 := (World.cell?_of_block (a := ⟨w.heap.size, 2, none⟩) (hkF w.heap.size (by omega))).trans c_r2
  have k3 := (World.cell?_of_block (a := ⟨w.heap.size, 3, none⟩) (hkF w.heap.size (by omega))).trans c_r3
  have k4 := (World.cell?_of_block (a := ⟨w.heap.size, 4, none⟩) (hkF w.heap.size (by omega))).trans c_r4
  have k5 := (World.cell?_of_block (a := ⟨w.heap.size, 5, none⟩) (hkF w.heap.size (by omega))).trans c_r5
  have hkE : ∀ q, q ≠ w.heap.size → ((((((w5.setCell ⟨w.heap.size, 0, none⟩ (.int .i64 chC.seg)).setCell ⟨w.heap.size, 1, none⟩ (.slice b1 chC.ws.length d1)).setCell ⟨w.heap.size, 2, none⟩ (.slice b2 chC.ks.length d2)).setCell ⟨w.heap.size, 3, none⟩ (.slice b3 chC.vs.length d3)).setCell ⟨w.heap.size, 4, none⟩ (.slice b4 chC.cs.length d4)).setCell ⟨w.heap.size, 5, none⟩ (.int .u64 chC.laid)).heap[q]? = w5.heap[q]? := fun q hq => by rw [heap_setCell_ne _ _ _ hq, heap_setCell_ne _ _ _ hq, heap_setCell_ne _ _ _ hq, heap_setCell_ne _ _ _ hq, heap_setCell_ne _ _ _ hq, heap_setCell_ne _ _ _ hq]
  refine bodyPost_ret (results_c rfl rfl (run_loadVar_many _ Tryd.underlying27 rfl (by kernel_rfl) (six_set k0 k1 k2 k3 k4 k5))) rfl ⟨_, _, _, _, rfl, ?_, ?_, ?_, ?_, ?_⟩
  · exact owns_base (owns_heap HP1.out fun j hj => by have := (HP1.out.lt j hj).1; exact (hkE j (by omega)).trans (hkF j (by omega))) (by omega)
  · exact owns_base (owns_heap HP2.out fun j hj => by have := (HP2.out.lt j hj).1; exact (hkE j (by omega)).trans (hkF j (by omega))) (by omega)
  · exact owns_base (owns_heap HP3.out fun j hj => by have := (HP3.out.lt j hj).1; exact (hkE j (by omega)).trans (hkF j (by omega))) (by omega)
  · exact owns_base (owns_heap HP4.out fun j hj => by have := (HP4.out.lt j hj).1; exact (hkE j (by omega)).trans (hkF j (by omega))) (by omega)
  · exact (((((hB5.setCell (by dsimp only; omega) _).setCell (by dsimp only; omega) _).setCell (by dsimp only; omega) _).setCell (by dsimp only; omega) _).setCell (by dsimp only; omega) _).setCell (by dsimp only; omega) _
end

section
open Go.RowKit

set_option maxHeartbeats 1000000 in
theorem tells_ok (l n : Int) (ma ca : Option Addr) (mc cc : Nat) (ms cs : List Int) (key count : Int) (h1 : atM l ms cs n = key) (h2 : atC l ms cs n = count) (h3 : atE l ms cs n = 0) (w : World) (hm : IsRow .i64 w ma ms) (hc : IsRow .i64 w ca cs) :
    Calls Tryd.prog 11 #[ixV l ma ms.length mc ca cs.length cc, .int .i64 n, .int .i64 key, .int .i64 count] w (AnsB w (.bool true)) := by
  have AT := Lib.hid (fun W (hb : Below w.heap.size w W) => At_ix l n ma ca mc cc ms cs W (hm.below hb) (hc.below hb))
  rw [h1, h2, h3] at AT
  have g1 : (key == key) = true := by simp
  have g2 : (count == count) = true := by simp
  clear h1 h2 h3 hm hc
  go_enter Tryd.func11, Tryd.ntmps11
  go_wp2_with fail
  refine (AT.out _ ((Below.refl _ _).alloc (Nat.le_refl _) _)).mono ?_
  rintro e w1 ⟨rfl, hb1⟩
  have hz_w1 := hb1.size
  try simp only [World.size_alloc, World.size_setCell] at hz_w1
  have hB1 : Below w.heap.size w w1 := by (repeat (first | (with_reducible exact Below.refl _ _) | (with_reducible assumption) | (with_reducible exact Hid.out (by with_reducible assumption)) | (with_reducible refine Below.alloc ?_ ?_ _) | (with_reducible refine Below.setCell ?_ ?_ _) | (with_reducible refine below_drewN ?_ _) | (with_reducible refine Below.drew ?_) | (with_reducible refine below_via (by with_reducible assumption) ?_ ?_) | (first | (with_reducible assumption) | omega | (simp only [World.size_alloc, World.size_setCell, World.size_drew, World.heap_drewN] <;> omega) | (simp <;> omega))))
  go_wp2
  go_ret
  exact ⟨rfl, hB1⟩
theorem ch_1 : atM 3 (bldM chC) (bldC chC) 1 = 12 ∧ atC 3 (bldM chC) (bldC chC) 1 = 5 ∧ atE 3 (bldM chC) (bldC chC) 1 = 0 := by rw [chC_eq]; decide +kernel
theorem ch_2 : atM 3 (bldM chC) (bldC chC) 2 = 5 ∧ atC 3 (bldM chC) (bldC chC) 2 = 2 ∧ atE 3 (bldM chC) (bldC chC) 2 = 0 := by rw [chC_eq]; decide +kernel
theorem ch_3 : atM 3 (bldM chC) (bldC chC) 3 = 12 ∧ atC 3 (bldM chC) (bldC chC) 3 = 3 ∧ atE 3 (bldM chC) (bldC chC) 3 = 0 := by rw [chC_eq]; decide +kernel
theorem ch_5 : atM 3 (bldM chC) (bldC chC) 5 = 0 ∧ atC 3 (bldM chC) (bldC chC) 5 = 0 ∧ atE 3 (bldM chC) (bldC chC) 5 = 0 := by rw [chC_eq]; decide +kernel

set_option maxRecDepth 100000 in
set_option maxHeartbeats 1000000 in
theorem alive_ok (w : World) : Calls Tryd.prog 4 #[] w (AnsB w (.bool true)) := by
  have BI := Lib.hid (fun a W h => BuildIx_ok chC a (by rw [chC_eq]; decide) (by rw [chC_eq]; decide) W h)
  rw [chC_lev, chC_bld] at BI
  have T1 := Lib.hid (fun ma ca mc cc W h h' => tells_ok 3 1 ma ca mc cc (bldM chC) (bldC chC) 12 5 ch_1.1 ch_1.2.1 ch_1.2.2 W h h')
  have T2 := Lib.hid (fun ma ca mc cc W h h' => tells_ok 3 2 ma ca mc cc (bldM chC) (bldC chC) 5 2 ch_2.1 ch_2.2.1 ch_2.2.2 W h h')
  have T3 := Lib.hid (fun ma ca mc cc W h h' => tells_ok 3 3 ma ca mc cc (bldM chC) (bldC chC) 12 3 ch_3.1 ch_3.2.1 ch_3.2.2 W h h')
  have T5 := Lib.hid (fun ma ca mc cc W h h' => tells_ok 3 5 ma ca mc cc (bldM chC) (bldC chC) 0 0 ch_5.1 ch_5.2.1 ch_5.2.2 W h h')
  have HU := Lib.hid chC_u
  have CH := Lib.hid chapter_ok
  unfold FreshSl at CH
  generalize bldM chC = bm at *
  generalize bldC chC = bc at *
  generalize chC = c at *
  go_enter Tryd.func4, Tryd.ntmps4
  go_wp2_with fail
  refine (CH.out w).mono ?_
  rintro e w1 ⟨v1, v2, v3, v4, rfl, o1, o2, o3, o4, hb1⟩
  obtain ⟨a1, c1, rfl, i1, -, -, -, -⟩ := row_of_owns o1
  obtain ⟨a2, c2, rfl, i2, -, -, -, -⟩ := row_of_owns o2
  obtain ⟨a3, c3, rfl, i3, -, -, -, -⟩ := row_of_owns o3
  obtain ⟨a4, c4, rfl, i4, -, -, -, -⟩ := row_of_owns o4
  have BI1 := Lib.hid (BI.out ⟨a1, a2, a3, a4, c1, c2, c3, c4⟩ w1 ⟨i1, i2, i3, i4, HU.out⟩)
  clear o1 o2 o3 o4 i1 i2 i3 i4
  go_wp2_with fail
  refine BI1.out.mono ?_
  rintro e w2 ⟨v, u, rfl, o1, o2, hb2⟩
  obtain ⟨ma, mc, rfl, i1, -, -, -, -⟩ := row_of_owns o1
  obtain ⟨ca, cc, rfl, i2, -, -, -, -⟩ := row_of_owns o2
  have hz1 := hb1.size
  have hz2 := hb2.size
  have hB2 : Below w.heap.size w w2 := below_via hb2 hb1 (by omega)
  have I1 := Lib.hid (fun W (hb : Below w2.heap.size w2 W) => i1.below hb)
  have I2 := Lib.hid (fun W (hb : Below w2.heap.size w2 W) => i2.below hb)
  clear o1 o2 i1 i2 hb1 hb2
  have hx : Below w2.heap.size w2 (w2.alloc (.cells #[.int .i64 3, .slice ma bm.length mc, .slice ca bc.length cc] 31)) := (Below.refl _ _).alloc (Nat.le_refl _) _
  go_wp2_with fail
  refine (T1.out ma ca mc cc _ (I1.out _ hx) (I2.out _ hx)).mono ?_
  rintro e w3 ⟨rfl, hb3⟩
  have hz_w3 := hb3.size
  try simp only [World.size_alloc, World.size_setCell] at hz_w3
  have c_x0 : w3.cell? ⟨w2.heap.size, 0, none⟩ = some (.int .i64 3) := (hb3.cell (p := ⟨w2.heap.size, 0, none⟩) (by (first | (with_reducible assumption) | omega | (simp only [World.size_alloc, World.size_setCell, World.size_drew, World.heap_drewN] <;> omega) | (simp <;> omega)))).trans (by (first | (with_reducible assumption) | ((try simp (disch := first | omega | (simp only [World.size_alloc, World.size_setCell, World.size_drew, World.heap_drewN] <;> omega) | fail) only [World.cell?_alloc_past, World.cell?_alloc_at, World.frozen?_alloc_past, World.frozen?_alloc_at, World.frozen?_setCell, World.cell?_drew, World.frozen?_drew]) <;> first | (with_reducible assumption) | rfl)))
  have c_x1 : w3.cell? ⟨w2.heap.size, 1, none⟩ = some (.slice ma bm.length mc) := (hb3.cell (p := ⟨w2.heap.size, 1, none⟩) (by (first | (with_reducible assumption) | omega | (simp only [World.size_alloc, World.size_setCell, World.size_drew, World.heap_drewN] <;> omega) | (simp <;> omega)))).trans (by (first | (with_reducible assumption) | ((try simp (disch := first | omega | (simp only [World.size_alloc, World.size_setCell, World.size_drew, World.heap_drewN] <;> omega) | fail) only [World.cell?_alloc_past, World.cell?_alloc_at, World.frozen?_alloc_past, World.frozen?_alloc_at, World.frozen?_setCell, World.cell?_drew, World.frozen?_drew]) <;> first | (with_reducible assumption) | rfl)))
  have c_x2 : w3.cell? ⟨w2.heap.size, 2, none⟩ = some (.slice ca bc.length cc) := (hb3.cell (p := ⟨w2.heap.size, 2, none⟩) (by (first | (with_reducible assumption) | omega | (simp only [World.size_alloc, World.size_setCell, World.size_drew, World.heap_drewN] <;> omega) | (simp <;> omega)))).trans (by (first | (with_reducible assumption) | ((try simp (disch := first | omega | (simp only [World.size_alloc, World.size_setCell, World.size_drew, World.heap_drewN] <;> omega) | fail) only [World.cell?_alloc_past, World.cell?_alloc_at, World.frozen?_alloc_past, World.frozen?_alloc_at, World.frozen?_setCell, World.cell?_drew, World.frozen?_drew]) <;> first | (with_reducible assumption) | rfl)))
  have z_x : w2.heap.size < w3.heap.size := by omega
  have h3 : Below w2.heap.size w2 w3 := below_via hb3 hx (by simp)
  go_wp2_with fail
  refine (T2.out ma ca mc cc _ (I1.out _ h3) (I2.out _ h3)).mono ?_
  rintro e w4 ⟨rfl, hb4⟩
  have hz_w4 := hb4.size
  try simp only [World.size_alloc, World.size_setCell] at hz_w4
  replace c_x0 : w4.cell? ⟨w2.heap.size, 0, none⟩ = some (.int .i64 3) := (hb4.cell (p := ⟨w2.heap.size, 0, none⟩) (by (first | (with_reducible assumption) | omega | (simp only [World.size_alloc, World.size_setCell, World.size_drew, World.heap_drewN] <;> omega) | (simp <;> omega)))).trans (by (first | (with_reducible assumption) | ((try simp (disch := first | omega | (simp only [World.size_alloc, World.size_setCell, World.size_drew, World.heap_drewN] <;> omega) | fail) only [World.cell?_alloc_past, World.cell?_alloc_at, World.frozen?_alloc_past, World.frozen?_alloc_at, World.frozen?_setCell, World.cell?_drew, World.frozen?_drew]) <;> first | (with_reducible assumption) | rfl)))
  replace c_x1 : w4.cell? ⟨w2.heap.size, 1, none⟩ = some (.slice ma bm.length mc) := (hb4.cell (p := ⟨w2.heap.size, 1, none⟩) (by (first | (with_reducible assumption) | omega | (simp only [World.size_alloc, World.size_setCell, World.size_drew, World.heap_drewN] <;> omega) | (simp <;> omega)))).trans (by (first | (with_reducible assumption) | ((try simp (disch := first | omega | (simp only [World.size_alloc, World.size_setCell, World.size_drew, World.heap_drewN] <;> omega) | fail) only [World.cell?_alloc_past, World.cell?_alloc_at, World.frozen?_alloc_past, World.frozen?_alloc_at, World.frozen?_setCell, World.cell?_drew, World.frozen?_drew]) <;> first | (with_reducible assumption) | rfl)))
  replace c_x2 : w4.cell? ⟨w2.heap.size, 2, none⟩ = some (.slice ca bc.length cc) := (hb4.cell (p := ⟨w2.heap.size, 2, none⟩) (by (first | (with_reducible assumption) | omega | (simp only [World.size_alloc, World.size_setCell, World.size_drew, World.heap_drewN] <;> omega) | (simp <;> omega)))).trans (by (first | (with_reducible assumption) | ((try simp (disch := first | omega | (simp only [World.size_alloc, World.size_setCell, World.size_drew, World.heap_drewN] <;> omega) | fail) only [World.cell?_alloc_past, World.cell?_alloc_at, World.frozen?_alloc_past, World.frozen?_alloc_at, World.frozen?_setCell, World.cell?_drew, World.frozen?_drew]) <;> first | (with_reducible assumption) | rfl)))
  replace z_x : w2.heap.size < w4.heap.size := by omega
  have h4 : Below w2.heap.size w2 w4 := below_via hb4 h3 (by omega)
  go_wp2_with fail
  refine (T3.out ma ca mc cc _ (I1.out _ h4) (I2.out _ h4)).mono ?_
  rintro e w5 ⟨rfl, hb5⟩
  have hz_w5 := hb5.size
  try simp only [World.size_alloc, World.size_setCell] at hz_w5
  replace c_x0 : w5.cell? ⟨w2.heap.size, 0, none⟩ = some (.int .i64 3) := (hb5.cell (p := ⟨w2.heap.size, 0, none⟩) (by (first | (with_reducible assumption) | omega | (simp only [World.size_alloc, World.size_setCell, World.size_drew, World.heap_drewN] <;> omega) | (simp <;> omega)))).trans (by (first | (with_reducible assumption) | ((try simp (disch := first | omega | (simp only [World.size_alloc, World.size_setCell, World.size_drew, World.heap_drewN] <;> omega) | fail) only [World.cell?_alloc_past, World.cell?_alloc_at, World.frozen?_alloc_past, World.frozen?_alloc_at, World.frozen?_setCell, World.cell?_drew, World.frozen?_drew]) <;> first | (with_reducible assumption) | rfl)))
  replace c_x1 : w5.cell? ⟨w2.heap.size, 1, none⟩ = some (.slice ma bm.length mc) := (hb5.cell (p := ⟨w2.heap.size, 1, none⟩) (by (first | (with_reducible assumption) | omega | (simp only [World.size_alloc, World.size_setCell, World.size_drew, World.heap_drewN] <;> omega) | (simp <;> omega)))).trans (by (first | (with_reducible assumption) | ((try simp (disch := first | omega | (simp only [World.size_alloc, World.size_setCell, World.size_drew, World.heap_drewN] <;> omega) | fail) only [World.cell?_alloc_past, World.cell?_alloc_at, World.frozen?_alloc_past, World.frozen?_alloc_at, World.frozen?_setCell, World.cell?_drew, World.frozen?_drew]) <;> first | (with_reducible assumption) | rfl)))
  replace c_x2 : w5.cell? ⟨w2.heap.size, 2, none⟩ = some (.slice ca bc.length cc) := (hb5.cell (p := ⟨w2.heap.size, 2, none⟩) (by (first | (with_reducible assumption) | omega | (simp only [World.size_alloc, World.size_setCell, World.size_drew, World.heap_drewN] <;> omega) | (simp <;> omega)))).trans (by (first | (with_reducible assumption) | ((try simp (disch := first | omega | (simp only [World.size_alloc, World.size_setCell, World.size_drew, World.heap_drewN] <;> omega) | fail) only [World.cell?_alloc_past, World.cell?_alloc_at, World.frozen?_alloc_past, World.frozen?_alloc_at, World.frozen?_setCell, World.cell?_drew, World.frozen?_drew]) <;> first | (with_reducible assumption) | rfl)))
  replace z_x : w2.heap.size < w5.heap.size := by omega
  have h5 : Below w2.heap.size w2 w5 := below_via hb5 h4 (by omega)
  go_wp2_with fail
  refine (T5.out ma ca mc cc _ (I1.out _ h5) (I2.out _ h5)).mono ?_
  rintro e w6 ⟨rfl, hb6⟩
  have hz_w6 := hb6.size
  try simp only [World.size_alloc, World.size_setCell] at hz_w6
  replace c_x0 : w6.cell? ⟨w2.heap.size, 0, none⟩ = some (.int .i64 3) := (hb6.cell (p := ⟨w2.heap.size, 0, none⟩) (by (first | (with_reducible assumption) | omega | (simp only [World.size_alloc, World.size_setCell, World.size_drew, World.heap_drewN] <;> omega) | (simp <;> omega)))).trans (by (first | (with_reducible assumption) | ((try simp (disch := first | omega | (simp only [World.size_alloc, World.size_setCell, World.size_drew, World.heap_drewN] <;> omega) | fail) only [World.cell?_alloc_past, World.cell?_alloc_at, World.frozen?_alloc_past, World.frozen?_alloc_at, World.frozen?_setCell, World.cell?_drew, World.frozen?_drew]) <;> first | (with_reducible assumption) | rfl)))
  replace c_x1 : w6.cell? ⟨w2.heap.size, 1, none⟩ = some (.slice ma bm.length mc) := (hb6.cell (p := ⟨w2.heap.size, 1, none⟩) (by (first | (with_reducible assumption) | omega | (simp only [World.size_alloc, World.size_setCell, World.size_drew, World.heap_drewN] <;> omega) | (simp <;> omega)))).trans (by (first | (with_reducible assumption) | ((try simp (disch := first | omega | (simp only [World.size_alloc, World.size_setCell, World.size_drew, World.heap_drewN] <;> omega) | fail) only [World.cell?_alloc_past, World.cell?_alloc_at, World.frozen?_alloc_past, World.frozen?_alloc_at, World.frozen?_setCell, World.cell?_drew, World.frozen?_drew]) <;> first | (with_reducible assumption) | rfl)))
  replace c_x2 : w6.cell? ⟨w2.heap.size, 2, none⟩ = some (.slice ca bc.length cc) := (hb6.cell (p := ⟨w2.heap.size, 2, none⟩) (by (first | (with_reducible assumption) | omega | (simp only [World.size_alloc, World.size_setCell, World.size_drew, World.heap_drewN] <;> omega) | (simp <;> omega)))).trans (by (first | (with_reducible assumption) | ((try simp (disch := first | omega | (simp only [World.size_alloc, World.size_setCell, World.size_drew, World.heap_drewN] <;> omega) | fail) only [World.cell?_alloc_past, World.cell?_alloc_at, World.frozen?_alloc_past, World.frozen?_alloc_at, World.frozen?_setCell, World.cell?_drew, World.frozen?_drew]) <;> first | (with_reducible assumption) | rfl)))
  replace z_x : w2.heap.size < w6.heap.size := by omega
  have h6 : Below w2.heap.size w2 w6 := below_via hb6 h5 (by omega)
  go_wp2
  go_ret
  exact ⟨rfl, below_via h6 hB2 (by omega)⟩
end
end Go.Proofs.YtelckhfmchnpnaaDoor
