/- The walk of shelfmarkref20.Fit. -/
import Derived.Test.YtbmibaafkgleeaaMendFit
import Derived.Deep.CutRange
namespace Go.Proofs.Ytbmibaafkgleeaa
open Go.RowKit Go.Shelf
set_option linter.unusedVariables false
set_option linter.unusedSimpArgs false

set_option maxRecDepth 100000 in
set_option maxHeartbeats 2000000 in
theorem Fit20_no (l : Int) (ma ica : Option Addr) (mc icc lm li : Nat) (aseg : Int) (awa aka ava aca : Option Addr) (awc akc avc acc alw alk alv alc : Nat) (alaid : Int) (bseg : Int) (bwa bka bva bca : Option Addr) (bwc bkc bvc bcc blw blk blv blc : Nat) (blaid : Int) (w : World) (bL : Int) (bm bc : List Int) (y : Int) (hy : y ≠ 0)
    (BI : Hid (∀ W, Below w.heap.size w W → Calls Try.prog 43 #[.agg #[.int .i64 bseg, .slice bwa blw bwc, .slice bka blk bkc, .slice bva blv bvc, .slice bca blc bcc, .int .u64 blaid]] W (FreshIx2 W bL bm bc (.int .i64 y)))) :
    Calls Try.prog 21 #[.agg #[.int .i64 l, .slice ma lm mc, .slice ica li icc], .agg #[.int .i64 aseg, .slice awa alw awc, .slice aka alk akc, .slice ava alv avc, .slice aca alc acc, .int .u64 alaid], .agg #[.int .i64 bseg, .slice bwa blw bwc, .slice bka blk bkc, .slice bva blv bvc, .slice bca blc bcc, .int .u64 blaid]] w (FreshIx2 w 0 [] [] (.int .i64 y)) := by
  have g1 : (y != 0) = true := by simpa using hy
  clear hy
  go_enter Try.func21, Try.ntmps21
  go_wp2_with fail
  refine (BI.out _ (by (repeat (first | (with_reducible exact Below.refl _ _) | (with_reducible assumption) | (with_reducible exact Hid.out (by with_reducible assumption)) | (with_reducible refine Below.alloc ?_ ?_ _) | (with_reducible refine Below.setCell ?_ ?_ _) | (with_reducible refine below_drewN ?_ _) | (with_reducible refine Below.drew ?_) | (with_reducible refine below_via (by with_reducible assumption) ?_ ?_) | (first | (with_reducible assumption) | omega | (simp only [World.size_alloc, World.size_setCell, World.size_drew, World.heap_drewN] <;> omega) | (simp <;> omega)))))).mono ?_
  rintro e w1 ⟨v, u, rfl, o1, o2, hb1⟩
  have hz_w1 := hb1.size
  try simp only [World.size_alloc, World.size_setCell] at hz_w1
  have all_c : w1.cell? ⟨w.heap.size, 0, none⟩ = some (.int .i64 l) ∧ w1.cell? ⟨w.heap.size, 1, none⟩ = some (.slice ma lm mc) ∧ w1.cell? ⟨w.heap.size, 2, none⟩ = some (.slice ica li icc) ∧ w1.cell? ⟨w.heap.size + 1, 0, none⟩ = some (.int .i64 aseg) ∧ w1.cell? ⟨w.heap.size + 1, 1, none⟩ = some (.slice awa alw awc) ∧ w1.cell? ⟨w.heap.size + 1, 2, none⟩ = some (.slice aka alk akc) ∧ w1.cell? ⟨w.heap.size + 1, 3, none⟩ = some (.slice ava alv avc) ∧ w1.cell? ⟨w.heap.size + 1, 4, none⟩ = some (.slice aca alc acc) ∧ w1.cell? ⟨w.heap.size + 1, 5, none⟩ = some (.int .u64 alaid) ∧ w1.cell? ⟨w.heap.size + 1 + 1, 0, none⟩ = some (.int .i64 bseg) ∧ w1.cell? ⟨w.heap.size + 1 + 1, 1, none⟩ = some (.slice bwa blw bwc) ∧ w1.cell? ⟨w.heap.size + 1 + 1, 2, none⟩ = some (.slice bka blk bkc) ∧ w1.cell? ⟨w.heap.size + 1 + 1, 3, none⟩ = some (.slice bva blv bvc) ∧ w1.cell? ⟨w.heap.size + 1 + 1, 4, none⟩ = some (.slice bca blc bcc) ∧ w1.cell? ⟨w.heap.size + 1 + 1, 5, none⟩ = some (.int .u64 blaid) ∧ w1.cell? ⟨w.heap.size + 1 + 1 + 1, 0, none⟩ = some (.int .i64 0) ∧ w1.cell? ⟨w.heap.size + 1 + 1 + 1, 1, none⟩ = some (.slice none 0 0) ∧ w1.cell? ⟨w.heap.size + 1 + 1 + 1, 2, none⟩ = some (.slice none 0 0) := by refine ⟨?_, ?_, ?_, ?_, ?_, ?_, ?_, ?_, ?_, ?_, ?_, ?_, ?_, ?_, ?_, ?_, ?_, ?_⟩ <;> (refine (hb1.cell ?_).trans ?_ <;> first | (first | (with_reducible assumption) | omega | (simp only [World.size_alloc, World.size_setCell, World.size_drew, World.heap_drewN] <;> omega) | (simp <;> omega)) | (first | (with_reducible assumption) | ((try simp (disch := first | omega | (simp only [World.size_alloc, World.size_setCell, World.size_drew, World.heap_drewN] <;> omega) | fail) only [World.cell?_alloc_past, World.cell?_alloc_at, World.frozen?_alloc_past, World.frozen?_alloc_at, World.frozen?_setCell, World.cell?_drew, World.frozen?_drew]) <;> first | (with_reducible assumption) | rfl)))
  have all_f : w1.frozen? ⟨w.heap.size + 1 + 1 + 1, 0, none⟩ = false ∧ w1.frozen? ⟨w.heap.size + 1 + 1 + 1, 1, none⟩ = false ∧ w1.frozen? ⟨w.heap.size + 1 + 1 + 1, 2, none⟩ = false := by refine ⟨?_, ?_, ?_⟩ <;> (refine (hb1.frozen ?_).trans ?_ <;> first | (first | (with_reducible assumption) | omega | (simp only [World.size_alloc, World.size_setCell, World.size_drew, World.heap_drewN] <;> omega) | (simp <;> omega)) | (first | (with_reducible assumption) | ((try simp (disch := first | omega | (simp only [World.size_alloc, World.size_setCell, World.size_drew, World.heap_drewN] <;> omega) | fail) only [World.cell?_alloc_past, World.cell?_alloc_at, World.frozen?_alloc_past, World.frozen?_alloc_at, World.frozen?_setCell, World.cell?_drew, World.frozen?_drew]) <;> first | (with_reducible assumption) | rfl)))
  have all_z : w.heap.size < w1.heap.size ∧ w.heap.size + 1 < w1.heap.size ∧ w.heap.size + 1 + 1 < w1.heap.size ∧ w.heap.size + 1 + 1 + 1 < w1.heap.size := by refine ⟨?_, ?_, ?_, ?_⟩ <;> (omega)
  obtain ⟨c_x0, c_x1, c_x2, c_a0, c_a1, c_a2, c_a3, c_a4, c_a5, c_b0, c_b1, c_b2, c_b3, c_b4, c_b5, c_r0, c_r1, c_r2⟩ := all_c
  try clear all_c
  obtain ⟨f_r0, f_r1, f_r2⟩ := all_f
  try clear all_f
  obtain ⟨z_x, z_a, z_b, z_r⟩ := all_z
  try clear all_z
  have hB1 : Below w.heap.size w w1 := by (repeat (first | (with_reducible exact Below.refl _ _) | (with_reducible assumption) | (with_reducible exact Hid.out (by with_reducible assumption)) | (with_reducible refine Below.alloc ?_ ?_ _) | (with_reducible refine Below.setCell ?_ ?_ _) | (with_reducible refine below_drewN ?_ _) | (with_reducible refine Below.drew ?_) | (with_reducible refine below_via (by with_reducible assumption) ?_ ?_) | (first | (with_reducible assumption) | omega | (simp only [World.size_alloc, World.size_setCell, World.size_drew, World.heap_drewN] <;> omega) | (simp <;> omega))))
  have hz1 := hb1.size
  simp only [World.size_alloc] at hz1
  obtain ⟨va1, vc1, rfl, -⟩ := owns_news o1
  obtain ⟨ua1, uc1, rfl, -⟩ := owns_news o2
  clear o1 o2 hb1
  go_wp2
  have hsw := three_set (w2 := w1) (b := w.heap.size + 1 + 1 + 1) (x := .int .i64 0) (y := .slice none 0 0) (z := .slice none 0 0) c_r0 c_r1 c_r2
  have hs7 : ((((w1.setCell ⟨w.heap.size + 1 + 1 + 1, 0, none⟩ (.int .i64 0)).setCell ⟨w.heap.size + 1 + 1 + 1, 1, none⟩ (.slice none 0 0)).setCell ⟨w.heap.size + 1 + 1 + 1, 2, none⟩ (.slice none 0 0))).heap.size = w1.heap.size := by simp only [World.size_setCell]
  have hB7 : Below w.heap.size w ((((w1.setCell ⟨w.heap.size + 1 + 1 + 1, 0, none⟩ (.int .i64 0)).setCell ⟨w.heap.size + 1 + 1 + 1, 1, none⟩ (.slice none 0 0)).setCell ⟨w.heap.size + 1 + 1 + 1, 2, none⟩ (.slice none 0 0))) := ((hB1.setCell (by dsimp only; omega) _).setCell (by dsimp only; omega) _).setCell (by dsimp only; omega) _
  generalize ((((w1.setCell ⟨w.heap.size + 1 + 1 + 1, 0, none⟩ (.int .i64 0)).setCell ⟨w.heap.size + 1 + 1 + 1, 1, none⟩ (.slice none 0 0)).setCell ⟨w.heap.size + 1 + 1 + 1, 2, none⟩ (.slice none 0 0))) = w7 at *
  have hal : Below w7.heap.size w7 (w7.alloc (.cells #[.int .i64 bL, .slice va1 bm.length vc1, .slice ua1 bc.length uc1] 25)) := (Below.refl _ w7).alloc (Nat.le_refl _) _
  refine bodyPost_ret (results_ct rfl rfl (run_loadVar_many _ Try.underlying25 rfl (by kernel_rfl) (three_at ((hal.cell (by dsimp only; omega)).trans hsw.1) ((hal.cell (by dsimp only; omega)).trans hsw.2.1) ((hal.cell (by dsimp only; omega)).trans hsw.2.2)))) rfl ⟨_, _, rfl, World.ownsRow_nil _ _ _ _, World.ownsRow_nil _ _ _ _, ?_⟩
  exact hB7.alloc (by omega) _

set_option maxRecDepth 100000 in
set_option maxHeartbeats 2000000 in
theorem Fit20_yes (l : Int) (ma ica : Option Addr) (mc icc lm li : Nat) (aseg : Int) (awa aka ava aca : Option Addr) (awc akc avc acc alw alk alv alc : Nat) (alaid : Int) (bseg : Int) (bwa bka bva bca : Option Addr) (bwc bkc bvc bcc blw blk blv blc : Nat) (blaid : Int) (w : World) (bL : Int) (bm bc : List Int)
    (BI : Hid (∀ W, Below w.heap.size w W → Calls Try.prog 43 #[.agg #[.int .i64 bseg, .slice bwa blw bwc, .slice bka blk bkc, .slice bva blv bvc, .slice bca blc bcc, .int .u64 blaid]] W (FreshIx2 W bL bm bc (.int .i64 0)))) :
    Calls Try.prog 21 #[.agg #[.int .i64 l, .slice ma lm mc, .slice ica li icc], .agg #[.int .i64 aseg, .slice awa alw awc, .slice aka alk akc, .slice ava alv avc, .slice aca alc acc, .int .u64 alaid], .agg #[.int .i64 bseg, .slice bwa blw bwc, .slice bka blk bkc, .slice bva blv bvc, .slice bca blc bcc, .int .u64 blaid]] w (FreshIx2 w bL bm bc (.int .i64 0)) := by
  go_enter Try.func21, Try.ntmps21
  go_wp2_with fail
  refine (BI.out _ (by (repeat (first | (with_reducible exact Below.refl _ _) | (with_reducible assumption) | (with_reducible exact Hid.out (by with_reducible assumption)) | (with_reducible refine Below.alloc ?_ ?_ _) | (with_reducible refine Below.setCell ?_ ?_ _) | (with_reducible refine below_drewN ?_ _) | (with_reducible refine Below.drew ?_) | (with_reducible refine below_via (by with_reducible assumption) ?_ ?_) | (first | (with_reducible assumption) | omega | (simp only [World.size_alloc, World.size_setCell, World.size_drew, World.heap_drewN] <;> omega) | (simp <;> omega)))))).mono ?_
  rintro e w1 ⟨v, u, rfl, o1, o2, hb1⟩
  have hz_w1 := hb1.size
  try simp only [World.size_alloc, World.size_setCell] at hz_w1
  have all_c : w1.cell? ⟨w.heap.size, 0, none⟩ = some (.int .i64 l) ∧ w1.cell? ⟨w.heap.size, 1, none⟩ = some (.slice ma lm mc) ∧ w1.cell? ⟨w.heap.size, 2, none⟩ = some (.slice ica li icc) ∧ w1.cell? ⟨w.heap.size + 1, 0, none⟩ = some (.int .i64 aseg) ∧ w1.cell? ⟨w.heap.size + 1, 1, none⟩ = some (.slice awa alw awc) ∧ w1.cell? ⟨w.heap.size + 1, 2, none⟩ = some (.slice aka alk akc) ∧ w1.cell? ⟨w.heap.size + 1, 3, none⟩ = some (.slice ava alv avc) ∧ w1.cell? ⟨w.heap.size + 1, 4, none⟩ = some (.slice aca alc acc) ∧ w1.cell? ⟨w.heap.size + 1, 5, none⟩ = some (.int .u64 alaid) ∧ w1.cell? ⟨w.heap.size + 1 + 1, 0, none⟩ = some (.int .i64 bseg) ∧ w1.cell? ⟨w.heap.size + 1 + 1, 1, none⟩ = some (.slice bwa blw bwc) ∧ w1.cell? ⟨w.heap.size + 1 + 1, 2, none⟩ = some (.slice bka blk bkc) ∧ w1.cell? ⟨w.heap.size + 1 + 1, 3, none⟩ = some (.slice bva blv bvc) ∧ w1.cell? ⟨w.heap.size + 1 + 1, 4, none⟩ = some (.slice bca blc bcc) ∧ w1.cell? ⟨w.heap.size + 1 + 1, 5, none⟩ = some (.int .u64 blaid) ∧ w1.cell? ⟨w.heap.size + 1 + 1 + 1, 0, none⟩ = some (.int .i64 0) ∧ w1.cell? ⟨w.heap.size + 1 + 1 + 1, 1, none⟩ = some (.slice none 0 0) ∧ w1.cell? ⟨w.heap.size + 1 + 1 + 1, 2, none⟩ = some (.slice none 0 0) := by refine ⟨?_, ?_, ?_, ?_, ?_, ?_, ?_, ?_, ?_, ?_, ?_, ?_, ?_, ?_, ?_, ?_, ?_, ?_⟩ <;> (refine (hb1.cell ?_).trans ?_ <;> first | (first | (with_reducible assumption) | omega | (simp only [World.size_alloc, World.size_setCell, World.size_drew, World.heap_drewN] <;> omega) | (simp <;> omega)) | (first | (with_reducible assumption) | ((try simp (disch := first | omega | (simp only [World.size_alloc, World.size_setCell, World.size_drew, World.heap_drewN] <;> omega) | fail) only [World.cell?_alloc_past, World.cell?_alloc_at, World.frozen?_alloc_past, World.frozen?_alloc_at, World.frozen?_setCell, World.cell?_drew, World.frozen?_drew]) <;> first | (with_reducible assumption) | rfl)))
  have all_f : w1.frozen? ⟨w.heap.size + 1 + 1 + 1, 0, none⟩ = false ∧ w1.frozen? ⟨w.heap.size + 1 + 1 + 1, 1, none⟩ = false ∧ w1.frozen? ⟨w.heap.size + 1 + 1 + 1, 2, none⟩ = false := by refine ⟨?_, ?_, ?_⟩ <;> (refine (hb1.frozen ?_).trans ?_ <;> first | (first | (with_reducible assumption) | omega | (simp only [World.size_alloc, World.size_setCell, World.size_drew, World.heap_drewN] <;> omega) | (simp <;> omega)) | (first | (with_reducible assumption) | ((try simp (disch := first | omega | (simp only [World.size_alloc, World.size_setCell, World.size_drew, World.heap_drewN] <;> omega) | fail) only [World.cell?_alloc_past, World.cell?_alloc_at, World.frozen?_alloc_past, World.frozen?_alloc_at, World.frozen?_setCell, World.cell?_drew, World.frozen?_drew]) <;> first | (with_reducible assumption) | rfl)))
  have all_z : w.heap.size < w1.heap.size ∧ w.heap.size + 1 < w1.heap.size ∧ w.heap.size + 1 + 1 < w1.heap.size ∧ w.heap.size + 1 + 1 + 1 < w1.heap.size := by refine ⟨?_, ?_, ?_, ?_⟩ <;> (omega)
  obtain ⟨c_x0, c_x1, c_x2, c_a0, c_a1, c_a2, c_a3, c_a4, c_a5, c_b0, c_b1, c_b2, c_b3, c_b4, c_b5, c_r0, c_r1, c_r2⟩ := all_c
  try clear all_c
  obtain ⟨f_r0, f_r1, f_r2⟩ := all_f
  try clear all_f
  obtain ⟨z_x, z_a, z_b, z_r⟩ := all_z
  try clear all_z
  have hB1 : Below w.heap.size w w1 := by (repeat (first | (with_reducible exact Below.refl _ _) | (with_reducible assumption) | (with_reducible exact Hid.out (by with_reducible assumption)) | (with_reducible refine Below.alloc ?_ ?_ _) | (with_reducible refine Below.setCell ?_ ?_ _) | (with_reducible refine below_drewN ?_ _) | (with_reducible refine Below.drew ?_) | (with_reducible refine below_via (by with_reducible assumption) ?_ ?_) | (first | (with_reducible assumption) | omega | (simp only [World.size_alloc, World.size_setCell, World.size_drew, World.heap_drewN] <;> omega) | (simp <;> omega))))
  have hz1 := hb1.size
  simp only [World.size_alloc] at hz1
  obtain ⟨va1, vc1, rfl, -⟩ := owns_news o1
  obtain ⟨ua1, uc1, rfl, -⟩ := owns_news o2
  have O1 := Lib.hid o1
  have O2 := Lib.hid o2
  clear o1 o2
  have hal : Below w1.heap.size w1 (w1.alloc (.cells #[.int .i64 bL, .slice va1 bm.length vc1, .slice ua1 bc.length uc1] 25)) := (Below.refl _ _).alloc (Nat.le_refl _) _
  have hsz : (w1.alloc (.cells #[.int .i64 bL, .slice va1 bm.length vc1, .slice ua1 bc.length uc1] 25)).heap.size = w1.heap.size + 1 := by simp
  have p0 : (w1.alloc (.cells #[.int .i64 bL, .slice va1 bm.length vc1, .slice ua1 bc.length uc1] 25)).cell? ⟨w1.heap.size, 0, none⟩ = some (.int .i64 bL) := by (first | (with_reducible assumption) | ((try simp (disch := first | omega | (simp only [World.size_alloc, World.size_setCell, World.size_drew, World.heap_drewN] <;> omega) | fail) only [World.cell?_alloc_past, World.cell?_alloc_at, World.frozen?_alloc_past, World.frozen?_alloc_at, World.frozen?_setCell, World.cell?_drew, World.frozen?_drew]) <;> first | (with_reducible assumption) | rfl))
  have p1 : (w1.alloc (.cells #[.int .i64 bL, .slice va1 bm.length vc1, .slice ua1 bc.length uc1] 25)).cell? ⟨w1.heap.size, 1, none⟩ = some (.slice va1 bm.length vc1) := by (first | (with_reducible assumption) | ((try simp (disch := first | omega | (simp only [World.size_alloc, World.size_setCell, World.size_drew, World.heap_drewN] <;> omega) | fail) only [World.cell?_alloc_past, World.cell?_alloc_at, World.frozen?_alloc_past, World.frozen?_alloc_at, World.frozen?_setCell, World.cell?_drew, World.frozen?_drew]) <;> first | (with_reducible assumption) | rfl))
  have p2 : (w1.alloc (.cells #[.int .i64 bL, .slice va1 bm.length vc1, .slice ua1 bc.length uc1] 25)).cell? ⟨w1.heap.size, 2, none⟩ = some (.slice ua1 bc.length uc1) := by (first | (with_reducible assumption) | ((try simp (disch := first | omega | (simp only [World.size_alloc, World.size_setCell, World.size_drew, World.heap_drewN] <;> omega) | fail) only [World.cell?_alloc_past, World.cell?_alloc_at, World.frozen?_alloc_past, World.frozen?_alloc_at, World.frozen?_setCell, World.cell?_drew, World.frozen?_drew]) <;> first | (with_reducible assumption) | rfl))
  go_upto_region 2 with (fail)
  generalize w1.alloc (.cells #[.int .i64 bL, .slice va1 bm.length vc1, .slice ua1 bc.length uc1] 25) = w1' at *
  have hz_w1' := hal.size
  try simp only [World.size_alloc, World.size_setCell] at hz_w1'
  have all_c : w1'.cell? ⟨w.heap.size, 0, none⟩ = some (.int .i64 l) ∧ w1'.cell? ⟨w.heap.size, 1, none⟩ = some (.slice ma lm mc) ∧ w1'.cell? ⟨w.heap.size, 2, none⟩ = some (.slice ica li icc) ∧ w1'.cell? ⟨w.heap.size + 1, 0, none⟩ = some (.int .i64 aseg) ∧ w1'.cell? ⟨w.heap.size + 1, 1, none⟩ = some (.slice awa alw awc) ∧ w1'.cell? ⟨w.heap.size + 1, 2, none⟩ = some (.slice aka alk akc) ∧ w1'.cell? ⟨w.heap.size + 1, 3, none⟩ = some (.slice ava alv avc) ∧ w1'.cell? ⟨w.heap.size + 1, 4, none⟩ = some (.slice aca alc acc) ∧ w1'.cell? ⟨w.heap.size + 1, 5, none⟩ = some (.int .u64 alaid) ∧ w1'.cell? ⟨w.heap.size + 1 + 1, 0, none⟩ = some (.int .i64 bseg) ∧ w1'.cell? ⟨w.heap.size + 1 + 1, 1, none⟩ = some (.slice bwa blw bwc) ∧ w1'.cell? ⟨w.heap.size + 1 + 1, 2, none⟩ = some (.slice bka blk bkc) ∧ w1'.cell? ⟨w.heap.size + 1 + 1, 3, none⟩ = some (.slice bva blv bvc) ∧ w1'.cell? ⟨w.heap.size + 1 + 1, 4, none⟩ = some (.slice bca blc bcc) ∧ w1'.cell? ⟨w.heap.size + 1 + 1, 5, none⟩ = some (.int .u64 blaid) ∧ w1'.cell? ⟨w.heap.size + 1 + 1 + 1, 0, none⟩ = some (.int .i64 0) ∧ w1'.cell? ⟨w.heap.size + 1 + 1 + 1, 1, none⟩ = some (.slice none 0 0) ∧ w1'.cell? ⟨w.heap.size + 1 + 1 + 1, 2, none⟩ = some (.slice none 0 0) := by refine ⟨?_, ?_, ?_, ?_, ?_, ?_, ?_, ?_, ?_, ?_, ?_, ?_, ?_, ?_, ?_, ?_, ?_, ?_⟩ <;> (refine (hal.cell ?_).trans ?_ <;> first | (first | (with_reducible assumption) | omega | (simp only [World.size_alloc, World.size_setCell, World.size_drew, World.heap_drewN] <;> omega) | (simp <;> omega)) | (first | (with_reducible assumption) | ((try simp (disch := first | omega | (simp only [World.size_alloc, World.size_setCell, World.size_drew, World.heap_drewN] <;> omega) | fail) only [World.cell?_alloc_past, World.cell?_alloc_at, World.frozen?_alloc_past, World.frozen?_alloc_at, World.frozen?_setCell, World.cell?_drew, World.frozen?_drew]) <;> first | (with_reducible assumption) | rfl)))
  have all_f : w1'.frozen? ⟨w.heap.size + 1 + 1 + 1, 0, none⟩ = false ∧ w1'.frozen? ⟨w.heap.size + 1 + 1 + 1, 1, none⟩ = false ∧ w1'.frozen? ⟨w.heap.size + 1 + 1 + 1, 2, none⟩ = false := by refine ⟨?_, ?_, ?_⟩ <;> (refine (hal.frozen ?_).trans ?_ <;> first | (first | (with_reducible assumption) | omega | (simp only [World.size_alloc, World.size_setCell, World.size_drew, World.heap_drewN] <;> omega) | (simp <;> omega)) | (first | (with_reducible assumption) | ((try simp (disch := first | omega | (simp only [World.size_alloc, World.size_setCell, World.size_drew, World.heap_drewN] <;> omega) | fail) only [World.cell?_alloc_past, World.cell?_alloc_at, World.frozen?_alloc_past, World.frozen?_alloc_at, World.frozen?_setCell, World.cell?_drew, World.frozen?_drew]) <;> first | (with_reducible assumption) | rfl)))
  have all_z : w.heap.size < w1'.heap.size ∧ w.heap.size + 1 < w1'.heap.size ∧ w.heap.size + 1 + 1 < w1'.heap.size ∧ w.heap.size + 1 + 1 + 1 < w1'.heap.size := by refine ⟨?_, ?_, ?_, ?_⟩ <;> (omega)
  clear c_x0 c_x1 c_x2 c_a0 c_a1 c_a2 c_a3 c_a4 c_a5 c_b0 c_b1 c_b2 c_b3 c_b4 c_b5 c_r0 c_r1 c_r2 f_r0 f_r1 f_r2 z_x z_a z_b z_r
  obtain ⟨c_x0, c_x1, c_x2, c_a0, c_a1, c_a2, c_a3, c_a4, c_a5, c_b0, c_b1, c_b2, c_b3, c_b4, c_b5, c_r0, c_r1, c_r2⟩ := all_c
  try clear all_c
  obtain ⟨f_r0, f_r1, f_r2⟩ := all_f
  try clear all_f
  obtain ⟨z_x, z_a, z_b, z_r⟩ := all_z
  try clear all_z
  clear hb1
  go_wp2
  have o1 := owns_below O1.out hal
  have o2 := owns_below O2.out hal
  simp only [World.size_alloc] at o1 o2
  have hB2 : Below w.heap.size w w1' := below_via hal hB1 (by omega)
  have hsw := three_set (w2 := w1') (b := w.heap.size + 1 + 1 + 1) (x := .int .i64 bL) (y := .slice va1 bm.length vc1) (z := .slice ua1 bc.length uc1) c_r0 c_r1 c_r2
  have hkE : ∀ q, q ≠ w.heap.size + 1 + 1 + 1 → ((((w1'.setCell ⟨w.heap.size + 1 + 1 + 1, 0, none⟩ (.int .i64 bL)).setCell ⟨w.heap.size + 1 + 1 + 1, 1, none⟩ (.slice va1 bm.length vc1)).setCell ⟨w.heap.size + 1 + 1 + 1, 2, none⟩ (.slice ua1 bc.length uc1))).heap[q]? = w1'.heap[q]? := fun q hq => by rw [heap_setCell_ne _ _ _ hq, heap_setCell_ne _ _ _ hq, heap_setCell_ne _ _ _ hq]
  refine bodyPost_ret (results_ct rfl rfl (run_loadVar_many _ Try.underlying25 rfl (by kernel_rfl) (three_at hsw.1 hsw.2.1 hsw.2.2))) rfl ⟨_, _, rfl, ?_, ?_, ?_⟩
  · exact owns_base (owns_heap o1 fun q hq => hkE q (by have := (o1).lt q hq; omega)) (by omega)
  · exact owns_base (owns_heap o2 fun q hq => hkE q (by have := (o2).lt q hq; omega)) (by omega)
  · exact ((hB2.setCell (by dsimp only; omega) _).setCell (by dsimp only; omega) _).setCell (by dsimp only; omega) _

theorem Fit20_ok (l : Int) (ma ica : Option Addr) (mc icc lm li : Nat) (c d : SlC) (a b : SlA) (hl : d.ws.length ≤ 1000000000000) (hl2 : d.ks.length ≤ 1000000000000) (w : World) (hd : SlIn w d b) :
    Calls Try.prog 21 #[.agg #[.int .i64 l, .slice ma lm mc, .slice ica li icc], slV c a, slV d b] w (FreshIx2 w (bldL d) (bldM d) (bldC d) (.int .i64 (bldE d))) := by
  have BI := Lib.hid (fun W (hb : Below w.heap.size w W) => Build18_ok d b hl hl2 W (hd.below hb))
  by_cases h : bldE d = 0
  · rw [h] at BI ⊢
    exact Fit20_yes _ _ _ _ _ _ _ _ _ _ _ _ _ _ _ _ _ _ _ _ _ _ _ _ _ _ _ _ _ _ _ _ _ _ _ w _ _ _ BI
  · obtain ⟨x1, x2, x3⟩ := bld_same h
    rw [x1, x2, x3] at BI ⊢
    exact Fit20_no _ _ _ _ _ _ _ _ _ _ _ _ _ _ _ _ _ _ _ _ _ _ _ _ _ _ _ _ _ _ _ _ _ _ _ w _ _ _ _ h BI
end Go.Proofs.Ytbmibaafkgleeaa
