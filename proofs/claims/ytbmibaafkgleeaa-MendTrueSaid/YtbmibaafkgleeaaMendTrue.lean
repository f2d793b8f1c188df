/-
  MendTrue: what Fit answers is the index of the array, whatever index and array it is made of.
  No condition.
-/
import Derived.Test.YtbmibaafkgleeaaAlive20
import Derived.Test.YtbmibaafkgleeaaIdxFns
namespace Go.Proofs.Ytbmibaafkgleeaa
open Go.RowKit
set_option linter.unusedVariables false
set_option linter.unusedSimpArgs false

theorem MT_great1 (l : Int) (ma ica : Option Addr) (mc icc lm li : Nat) (aseg : Int) (awa aka ava aca : Option Addr) (awc akc avc acc alw alk alv alc : Nat) (alaid : Int) (bseg : Int) (bwa bka bva bca : Option Addr) (bwc bkc bvc bcc blw blk blv blc : Nat) (blaid : Int) (w : World) (G1 : Hid (∀ W, Calls Try.prog 9 #[.agg #[.int .i64 l, .slice ma lm mc, .slice ica li icc]] W (AnsB W (.bool true)))) :
    Calls Try.prog 8 #[.agg #[.int .i64 l, .slice ma lm mc, .slice ica li icc], .agg #[.int .i64 aseg, .slice awa alw awc, .slice aka alk akc, .slice ava alv avc, .slice aca alc acc, .int .u64 alaid], .agg #[.int .i64 bseg, .slice bwa blw bwc, .slice bka blk bkc, .slice bva blv bvc, .slice bca blc bcc, .int .u64 blaid]] w (AnsB w (.bool true)) := by
  have AL := Lib.hid alive20_ok
  go_enter Try.func8, Try.ntmps8
  go_wp2_with fail
  refine (AL.out _).mono ?_
  rintro e w1 ⟨rfl, hb1⟩
  have hz_w1 := hb1.size
  try simp only [World.size_alloc, World.size_setCell] at hz_w1
  have all_c : w1.cell? ⟨w.heap.size, 0, none⟩ = some (.int .i64 l) ∧ w1.cell? ⟨w.heap.size, 1, none⟩ = some (.slice ma lm mc) ∧ w1.cell? ⟨w.heap.size, 2, none⟩ = some (.slice ica li icc) ∧ w1.cell? ⟨w.heap.size + 1, 0, none⟩ = some (.int .i64 aseg) ∧ w1.cell? ⟨w.heap.size + 1, 1, none⟩ = some (.slice awa alw awc) ∧ w1.cell? ⟨w.heap.size + 1, 2, none⟩ = some (.slice aka alk akc) ∧ w1.cell? ⟨w.heap.size + 1, 3, none⟩ = some (.slice ava alv avc) ∧ w1.cell? ⟨w.heap.size + 1, 4, none⟩ = some (.slice aca alc acc) ∧ w1.cell? ⟨w.heap.size + 1, 5, none⟩ = some (.int .u64 alaid) ∧ w1.cell? ⟨w.heap.size + 1 + 1, 0, none⟩ = some (.int .i64 bseg) ∧ w1.cell? ⟨w.heap.size + 1 + 1, 1, none⟩ = some (.slice bwa blw bwc) ∧ w1.cell? ⟨w.heap.size + 1 + 1, 2, none⟩ = some (.slice bka blk bkc) ∧ w1.cell? ⟨w.heap.size + 1 + 1, 3, none⟩ = some (.slice bva blv bvc) ∧ w1.cell? ⟨w.heap.size + 1 + 1, 4, none⟩ = some (.slice bca blc bcc) ∧ w1.cell? ⟨w.heap.size + 1 + 1, 5, none⟩ = some (.int .u64 blaid) := by refine ⟨?_, ?_, ?_, ?_, ?_, ?_, ?_, ?_, ?_, ?_, ?_, ?_, ?_, ?_, ?_⟩ <;> (refine (hb1.cell ?_).trans ?_ <;> first | (first | (with_reducible assumption) | omega | (simp only [World.size_alloc, World.size_setCell, World.size_drew, World.heap_drewN] <;> omega) | (simp <;> omega)) | (first | (with_reducible assumption) | ((try simp (disch := first | omega | (simp only [World.size_alloc, World.size_setCell, World.size_drew, World.heap_drewN] <;> omega) | fail) only [World.cell?_alloc_past, World.cell?_alloc_at, World.frozen?_alloc_past, World.frozen?_alloc_at, World.frozen?_setCell, World.cell?_drew, World.frozen?_drew]) <;> first | (with_reducible assumption) | rfl)))
  have all_z : w.heap.size < w1.heap.size ∧ w.heap.size + 1 < w1.heap.size ∧ w.heap.size + 1 + 1 < w1.heap.size := by refine ⟨?_, ?_, ?_⟩ <;> (omega)
  obtain ⟨c_x0, c_x1, c_x2, c_a0, c_a1, c_a2, c_a3, c_a4, c_a5, c_b0, c_b1, c_b2, c_b3, c_b4, c_b5⟩ := all_c
  try clear all_c
  obtain ⟨z_x, z_a, z_b⟩ := all_z
  try clear all_z
  have hB1 : Below w.heap.size w w1 := by (repeat (first | (with_reducible exact Below.refl _ _) | (with_reducible assumption) | (with_reducible exact Hid.out (by with_reducible assumption)) | (with_reducible refine Below.alloc ?_ ?_ _) | (with_reducible refine Below.setCell ?_ ?_ _) | (with_reducible refine below_drewN ?_ _) | (with_reducible refine Below.drew ?_) | (with_reducible refine below_via (by with_reducible assumption) ?_ ?_) | (first | (with_reducible assumption) | omega | (simp only [World.size_alloc, World.size_setCell, World.size_drew, World.heap_drewN] <;> omega) | (simp <;> omega))))
  go_wp2_with fail
  refine (G1.out _).mono ?_
  rintro e v1 ⟨rfl, hv1⟩
  have hz_v1 := hv1.size
  try simp only [World.size_alloc, World.size_setCell] at hz_v1
  have all_c : v1.cell? ⟨w.heap.size, 0, none⟩ = some (.int .i64 l) ∧ v1.cell? ⟨w.heap.size, 1, none⟩ = some (.slice ma lm mc) ∧ v1.cell? ⟨w.heap.size, 2, none⟩ = some (.slice ica li icc) ∧ v1.cell? ⟨w.heap.size + 1, 0, none⟩ = some (.int .i64 aseg) ∧ v1.cell? ⟨w.heap.size + 1, 1, none⟩ = some (.slice awa alw awc) ∧ v1.cell? ⟨w.heap.size + 1, 2, none⟩ = some (.slice aka alk akc) ∧ v1.cell? ⟨w.heap.size + 1, 3, none⟩ = some (.slice ava alv avc) ∧ v1.cell? ⟨w.heap.size + 1, 4, none⟩ = some (.slice aca alc acc) ∧ v1.cell? ⟨w.heap.size + 1, 5, none⟩ = some (.int .u64 alaid) ∧ v1.cell? ⟨w.heap.size + 1 + 1, 0, none⟩ = some (.int .i64 bseg) ∧ v1.cell? ⟨w.heap.size + 1 + 1, 1, none⟩ = some (.slice bwa blw bwc) ∧ v1.cell? ⟨w.heap.size + 1 + 1, 2, none⟩ = some (.slice bka blk bkc) ∧ v1.cell? ⟨w.heap.size + 1 + 1, 3, none⟩ = some (.slice bva blv bvc) ∧ v1.cell? ⟨w.heap.size + 1 + 1, 4, none⟩ = some (.slice bca blc bcc) ∧ v1.cell? ⟨w.heap.size + 1 + 1, 5, none⟩ = some (.int .u64 blaid) := by refine ⟨?_, ?_, ?_, ?_, ?_, ?_, ?_, ?_, ?_, ?_, ?_, ?_, ?_, ?_, ?_⟩ <;> (refine (hv1.cell ?_).trans ?_ <;> first | (first | (with_reducible assumption) | omega | (simp only [World.size_alloc, World.size_setCell, World.size_drew, World.heap_drewN] <;> omega) | (simp <;> omega)) | (first | (with_reducible assumption) | ((try simp (disch := first | omega | (simp only [World.size_alloc, World.size_setCell, World.size_drew, World.heap_drewN] <;> omega) | fail) only [World.cell?_alloc_past, World.cell?_alloc_at, World.frozen?_alloc_past, World.frozen?_alloc_at, World.frozen?_setCell, World.cell?_drew, World.frozen?_drew]) <;> first | (with_reducible assumption) | rfl)))
  have all_z : w.heap.size < v1.heap.size ∧ w.heap.size + 1 < v1.heap.size ∧ w.heap.size + 1 + 1 < v1.heap.size := by refine ⟨?_, ?_, ?_⟩ <;> (omega)
  clear c_x0 c_x1 c_x2 c_a0 c_a1 c_a2 c_a3 c_a4 c_a5 c_b0 c_b1 c_b2 c_b3 c_b4 c_b5 z_x z_a z_b
  obtain ⟨c_x0, c_x1, c_x2, c_a0, c_a1, c_a2, c_a3, c_a4, c_a5, c_b0, c_b1, c_b2, c_b3, c_b4, c_b5⟩ := all_c
  try clear all_c
  obtain ⟨z_x, z_a, z_b⟩ := all_z
  try clear all_z
  have hV1 : Below w.heap.size w v1 := by (repeat (first | (with_reducible exact Below.refl _ _) | (with_reducible assumption) | (with_reducible exact Hid.out (by with_reducible assumption)) | (with_reducible refine Below.alloc ?_ ?_ _) | (with_reducible refine Below.setCell ?_ ?_ _) | (with_reducible refine below_drewN ?_ _) | (with_reducible refine Below.drew ?_) | (with_reducible refine below_via (by with_reducible assumption) ?_ ?_) | (first | (with_reducible assumption) | omega | (simp only [World.size_alloc, World.size_setCell, World.size_drew, World.heap_drewN] <;> omega) | (simp <;> omega))))
  go_wp2
  go_ret
  exact ⟨rfl, hV1⟩

theorem MT_great2 (l : Int) (ma ica : Option Addr) (mc icc lm li : Nat) (aseg : Int) (awa aka ava aca : Option Addr) (awc akc avc acc alw alk alv alc : Nat) (alaid : Int) (bseg : Int) (bwa bka bva bca : Option Addr) (bwc bkc bvc bcc blw blk blv blc : Nat) (blaid : Int) (w : World) (G1 : Hid (∀ W, Calls Try.prog 9 #[.agg #[.int .i64 l, .slice ma lm mc, .slice ica li icc]] W (AnsB W (.bool false)))) (G2 : Hid (∀ W, Calls Try.prog 10 #[.agg #[.int .i64 aseg, .slice awa alw awc, .slice aka alk akc, .slice ava alv avc, .slice aca alc acc, .int .u64 alaid], .int .i64 600] W (AnsB W (.bool true)))) :
    Calls Try.prog 8 #[.agg #[.int .i64 l, .slice ma lm mc, .slice ica li icc], .agg #[.int .i64 aseg, .slice awa alw awc, .slice aka alk akc, .slice ava alv avc, .slice aca alc acc, .int .u64 alaid], .agg #[.int .i64 bseg, .slice bwa blw bwc, .slice bka blk bkc, .slice bva blv bvc, .slice bca blc bcc, .int .u64 blaid]] w (AnsB w (.bool true)) := by
  have AL := Lib.hid alive20_ok
  go_enter Try.func8, Try.ntmps8
  go_wp2_with fail
  refine (AL.out _).mono ?_
  rintro e w1 ⟨rfl, hb1⟩
  have hz_w1 := hb1.size
  try simp only [World.size_alloc, World.size_setCell] at hz_w1
  have all_c : w1.cell? ⟨w.heap.size, 0, none⟩ = some (.int .i64 l) ∧ w1.cell? ⟨w.heap.size, 1, none⟩ = some (.slice ma lm mc) ∧ w1.cell? ⟨w.heap.size, 2, none⟩ = some (.slice ica li icc) ∧ w1.cell? ⟨w.heap.size + 1, 0, none⟩ = some (.int .i64 aseg) ∧ w1.cell? ⟨w.heap.size + 1, 1, none⟩ = some (.slice awa alw awc) ∧ w1.cell? ⟨w.heap.size + 1, 2, none⟩ = some (.slice aka alk akc) ∧ w1.cell? ⟨w.heap.size + 1, 3, none⟩ = some (.slice ava alv avc) ∧ w1.cell? ⟨w.heap.size + 1, 4, none⟩ = some (.slice aca alc acc) ∧ w1.cell? ⟨w.heap.size + 1, 5, none⟩ = some (.int .u64 alaid) ∧ w1.cell? ⟨w.heap.size + 1 + 1, 0, none⟩ = some (.int .i64 bseg) ∧ w1.cell? ⟨w.heap.size + 1 + 1, 1, none⟩ = some (.slice bwa blw bwc) ∧ w1.cell? ⟨w.heap.size + 1 + 1, 2, none⟩ = some (.slice bka blk bkc) ∧ w1.cell? ⟨w.heap.size + 1 + 1, 3, none⟩ = some (.slice bva blv bvc) ∧ w1.cell? ⟨w.heap.size + 1 + 1, 4, none⟩ = some (.slice bca blc bcc) ∧ w1.cell? ⟨w.heap.size + 1 + 1, 5, none⟩ = some (.int .u64 blaid) := by refine ⟨?_, ?_, ?_, ?_, ?_, ?_, ?_, ?_, ?_, ?_, ?_, ?_, ?_, ?_, ?_⟩ <;> (refine (hb1.cell ?_).trans ?_ <;> first | (first | (with_reducible assumption) | omega | (simp only [World.size_alloc, World.size_setCell, World.size_drew, World.heap_drewN] <;> omega) | (simp <;> omega)) | (first | (with_reducible assumption) | ((try simp (disch := first | omega | (simp only [World.size_alloc, World.size_setCell, World.size_drew, World.heap_drewN] <;> omega) | fail) only [World.cell?_alloc_past, World.cell?_alloc_at, World.frozen?_alloc_past, World.frozen?_alloc_at, World.frozen?_setCell, World.cell?_drew, World.frozen?_drew]) <;> first | (with_reducible assumption) | rfl)))
  have all_z : w.heap.size < w1.heap.size ∧ w.heap.size + 1 < w1.heap.size ∧ w.heap.size + 1 + 1 < w1.heap.size := by refine ⟨?_, ?_, ?_⟩ <;> (omega)
  obtain ⟨c_x0, c_x1, c_x2, c_a0, c_a1, c_a2, c_a3, c_a4, c_a5, c_b0, c_b1, c_b2, c_b3, c_b4, c_b5⟩ := all_c
  try clear all_c
  obtain ⟨z_x, z_a, z_b⟩ := all_z
  try clear all_z
  have hB1 : Below w.heap.size w w1 := by (repeat (first | (with_reducible exact Below.refl _ _) | (with_reducible assumption) | (with_reducible exact Hid.out (by with_reducible assumption)) | (with_reducible refine Below.alloc ?_ ?_ _) | (with_reducible refine Below.setCell ?_ ?_ _) | (with_reducible refine below_drewN ?_ _) | (with_reducible refine Below.drew ?_) | (with_reducible refine below_via (by with_reducible assumption) ?_ ?_) | (first | (with_reducible assumption) | omega | (simp only [World.size_alloc, World.size_setCell, World.size_drew, World.heap_drewN] <;> omega) | (simp <;> omega))))
  go_wp2_with fail
  refine (G1.out _).mono ?_
  rintro e v1 ⟨rfl, hv1⟩
  have hz_v1 := hv1.size
  try simp only [World.size_alloc, World.size_setCell] at hz_v1
  have all_c : v1.cell? ⟨w.heap.size, 0, none⟩ = some (.int .i64 l) ∧ v1.cell? ⟨w.heap.size, 1, none⟩ = some (.slice ma lm mc) ∧ v1.cell? ⟨w.heap.size, 2, none⟩ = some (.slice ica li icc) ∧ v1.cell? ⟨w.heap.size + 1, 0, none⟩ = some (.int .i64 aseg) ∧ v1.cell? ⟨w.heap.size + 1, 1, none⟩ = some (.slice awa alw awc) ∧ v1.cell? ⟨w.heap.size + 1, 2, none⟩ = some (.slice aka alk akc) ∧ v1.cell? ⟨w.heap.size + 1, 3, none⟩ = some (.slice ava alv avc) ∧ v1.cell? ⟨w.heap.size + 1, 4, none⟩ = some (.slice aca alc acc) ∧ v1.cell? ⟨w.heap.size + 1, 5, none⟩ = some (.int .u64 alaid) ∧ v1.cell? ⟨w.heap.size + 1 + 1, 0, none⟩ = some (.int .i64 bseg) ∧ v1.cell? ⟨w.heap.size + 1 + 1, 1, none⟩ = some (.slice bwa blw bwc) ∧ v1.cell? ⟨w.heap.size + 1 + 1, 2, none⟩ = some (.slice bka blk bkc) ∧ v1.cell? ⟨w.heap.size + 1 + 1, 3, none⟩ = some (.slice bva blv bvc) ∧ v1.cell? ⟨w.heap.size + 1 + 1, 4, none⟩ = some (.slice bca blc bcc) ∧ v1.cell? ⟨w.heap.size + 1 + 1, 5, none⟩ = some (.int .u64 blaid) := by refine ⟨?_, ?_, ?_, ?_, ?_, ?_, ?_, ?_, ?_, ?_, ?_, ?_, ?_, ?_, ?_⟩ <;> (refine (hv1.cell ?_).trans ?_ <;> first | (first | (with_reducible assumption) | omega | (simp only [World.size_alloc, World.size_setCell, World.size_drew, World.heap_drewN] <;> omega) | (simp <;> omega)) | (first | (with_reducible assumption) | ((try simp (disch := first | omega | (simp only [World.size_alloc, World.size_setCell, World.size_drew, World.heap_drewN] <;> omega) | fail) only [World.cell?_alloc_past, World.cell?_alloc_at, World.frozen?_alloc_past, World.frozen?_alloc_at, World.frozen?_setCell, World.cell?_drew, World.frozen?_drew]) <;> first | (with_reducible assumption) | rfl)))
  have all_z : w.heap.size < v1.heap.size ∧ w.heap.size + 1 < v1.heap.size ∧ w.heap.size + 1 + 1 < v1.heap.size := by refine ⟨?_, ?_, ?_⟩ <;> (omega)
  clear c_x0 c_x1 c_x2 c_a0 c_a1 c_a2 c_a3 c_a4 c_a5 c_b0 c_b1 c_b2 c_b3 c_b4 c_b5 z_x z_a z_b
  obtain ⟨c_x0, c_x1, c_x2, c_a0, c_a1, c_a2, c_a3, c_a4, c_a5, c_b0, c_b1, c_b2, c_b3, c_b4, c_b5⟩ := all_c
  try clear all_c
  obtain ⟨z_x, z_a, z_b⟩ := all_z
  try clear all_z
  have hV1 : Below w.heap.size w v1 := by (repeat (first | (with_reducible exact Below.refl _ _) | (with_reducible assumption) | (with_reducible exact Hid.out (by with_reducible assumption)) | (with_reducible refine Below.alloc ?_ ?_ _) | (with_reducible refine Below.setCell ?_ ?_ _) | (with_reducible refine below_drewN ?_ _) | (with_reducible refine Below.drew ?_) | (with_reducible refine below_via (by with_reducible assumption) ?_ ?_) | (first | (with_reducible assumption) | omega | (simp only [World.size_alloc, World.size_setCell, World.size_drew, World.heap_drewN] <;> omega) | (simp <;> omega))))
  go_wp2_with fail
  refine (G2.out _).mono ?_
  rintro e v2 ⟨rfl, hv2⟩
  have hz_v2 := hv2.size
  try simp only [World.size_alloc, World.size_setCell] at hz_v2
  have all_c : v2.cell? ⟨w.heap.size, 0, none⟩ = some (.int .i64 l) ∧ v2.cell? ⟨w.heap.size, 1, none⟩ = some (.slice ma lm mc) ∧ v2.cell? ⟨w.heap.size, 2, none⟩ = some (.slice ica li icc) ∧ v2.cell? ⟨w.heap.size + 1, 0, none⟩ = some (.int .i64 aseg) ∧ v2.cell? ⟨w.heap.size + 1, 1, none⟩ = some (.slice awa alw awc) ∧ v2.cell? ⟨w.heap.size + 1, 2, none⟩ = some (.slice aka alk akc) ∧ v2.cell? ⟨w.heap.size + 1, 3, none⟩ = some (.slice ava alv avc) ∧ v2.cell? ⟨w.heap.size + 1, 4, none⟩ = some (.slice aca alc acc) ∧ v2.cell? ⟨w.heap.size + 1, 5, none⟩ = some (.int .u64 alaid) ∧ v2.cell? ⟨w.heap.size + 1 + 1, 0, none⟩ = some (.int .i64 bseg) ∧ v2.cell? ⟨w.heap.size + 1 + 1, 1, none⟩ = some (.slice bwa blw bwc) ∧ v2.cell? ⟨w.heap.size + 1 + 1, 2, none⟩ = some (.slice bka blk bkc) ∧ v2.cell? ⟨w.heap.size + 1 + 1, 3, none⟩ = some (.slice bva blv bvc) ∧ v2.cell? ⟨w.heap.size + 1 + 1, 4, none⟩ = some (.slice bca blc bcc) ∧ v2.cell? ⟨w.heap.size + 1 + 1, 5, none⟩ = some (.int .u64 blaid) := by refine ⟨?_, ?_, ?_, ?_, ?_, ?_, ?_, ?_, ?_, ?_, ?_, ?_, ?_, ?_, ?_⟩ <;> (refine (hv2.cell ?_).trans ?_ <;> first | (first | (with_reducible assumption) | omega | (simp only [World.size_alloc, World.size_setCell, World.size_drew, World.heap_drewN] <;> omega) | (simp <;> omega)) | (first | (with_reducible assumption) | ((try simp (disch := first | omega | (simp only [World.size_alloc, World.size_setCell, World.size_drew, World.heap_drewN] <;> omega) | fail) only [World.cell?_alloc_past, World.cell?_alloc_at, World.frozen?_alloc_past, World.frozen?_alloc_at, World.frozen?_setCell, World.cell?_drew, World.frozen?_drew]) <;> first | (with_reducible assumption) | rfl)))
  have all_z : w.heap.size < v2.heap.size ∧ w.heap.size + 1 < v2.heap.size ∧ w.heap.size + 1 + 1 < v2.heap.size := by refine ⟨?_, ?_, ?_⟩ <;> (omega)
  clear c_x0 c_x1 c_x2 c_a0 c_a1 c_a2 c_a3 c_a4 c_a5 c_b0 c_b1 c_b2 c_b3 c_b4 c_b5 z_x z_a z_b
  obtain ⟨c_x0, c_x1, c_x2, c_a0, c_a1, c_a2, c_a3, c_a4, c_a5, c_b0, c_b1, c_b2, c_b3, c_b4, c_b5⟩ := all_c
  try clear all_c
  obtain ⟨z_x, z_a, z_b⟩ := all_z
  try clear all_z
  have hV2 : Below w.heap.size w v2 := by (repeat (first | (with_reducible exact Below.refl _ _) | (with_reducible assumption) | (with_reducible exact Hid.out (by with_reducible assumption)) | (with_reducible refine Below.alloc ?_ ?_ _) | (with_reducible refine Below.setCell ?_ ?_ _) | (with_reducible refine below_drewN ?_ _) | (with_reducible refine Below.drew ?_) | (with_reducible refine below_via (by with_reducible assumption) ?_ ?_) | (first | (with_reducible assumption) | omega | (simp only [World.size_alloc, World.size_setCell, World.size_drew, World.heap_drewN] <;> omega) | (simp <;> omega))))
  go_wp2
  go_ret
  exact ⟨rfl, hV2⟩

theorem MT_great3 (l : Int) (ma ica : Option Addr) (mc icc lm li : Nat) (aseg : Int) (awa aka ava aca : Option Addr) (awc akc avc acc alw alk alv alc : Nat) (alaid : Int) (bseg : Int) (bwa bka bva bca : Option Addr) (bwc bkc bvc bcc blw blk blv blc : Nat) (blaid : Int) (w : World) (G1 : Hid (∀ W, Calls Try.prog 9 #[.agg #[.int .i64 l, .slice ma lm mc, .slice ica li icc]] W (AnsB W (.bool false)))) (G2 : Hid (∀ W, Calls Try.prog 10 #[.agg #[.int .i64 aseg, .slice awa alw awc, .slice aka alk akc, .slice ava alv avc, .slice aca alc acc, .int .u64 alaid], .int .i64 600] W (AnsB W (.bool false)))) (G3 : Hid (∀ W, Calls Try.prog 10 #[.agg #[.int .i64 bseg, .slice bwa blw bwc, .slice bka blk bkc, .slice bva blv bvc, .slice bca blc bcc, .int .u64 blaid], .int .i64 600] W (AnsB W (.bool true)))) :
    Calls Try.prog 8 #[.agg #[.int .i64 l, .slice ma lm mc, .slice ica li icc], .agg #[.int .i64 aseg, .slice awa alw awc, .slice aka alk akc, .slice ava alv avc, .slice aca alc acc, .int .u64 alaid], .agg #[.int .i64 bseg, .slice bwa blw bwc, .slice bka blk bkc, .slice bva blv bvc, .slice bca blc bcc, .int .u64 blaid]] w (AnsB w (.bool true)) := by
  have AL := Lib.hid alive20_ok
  go_enter Try.func8, Try.ntmps8
  go_wp2_with fail
  refine (AL.out _).mono ?_
  rintro e w1 ⟨rfl, hb1⟩
  have hz_w1 := hb1.size
  try simp only [World.size_alloc, World.size_setCell] at hz_w1
  have all_c : w1.cell? ⟨w.heap.size, 0, none⟩ = some (.int .i64 l) ∧ w1.cell? ⟨w.heap.size, 1, none⟩ = some (.slice ma lm mc) ∧ w1.cell? ⟨w.heap.size, 2, none⟩ = some (.slice ica li icc) ∧ w1.cell? ⟨w.heap.size + 1, 0, none⟩ = some (.int .i64 aseg) ∧ w1.cell? ⟨w.heap.size + 1, 1, none⟩ = some (.slice awa alw awc) ∧ w1.cell? ⟨w.heap.size + 1, 2, none⟩ = some (.slice aka alk akc) ∧ w1.cell? ⟨w.heap.size + 1, 3, none⟩ = some (.slice ava alv avc) ∧ w1.cell? ⟨w.heap.size + 1, 4, none⟩ = some (.slice aca alc acc) ∧ w1.cell? ⟨w.heap.size + 1, 5, none⟩ = some (.int .u64 alaid) ∧ w1.cell? ⟨w.heap.size + 1 + 1, 0, none⟩ = some (.int .i64 bseg) ∧ w1.cell? ⟨w.heap.size + 1 + 1, 1, none⟩ = some (.slice bwa blw bwc) ∧ w1.cell? ⟨w.heap.size + 1 + 1, 2, none⟩ = some (.slice bka blk bkc) ∧ w1.cell? ⟨w.heap.size + 1 + 1, 3, none⟩ = some (.slice bva blv bvc) ∧ w1.cell? ⟨w.heap.size + 1 + 1, 4, none⟩ = some (.slice bca blc bcc) ∧ w1.cell? ⟨w.heap.size + 1 + 1, 5, none⟩ = some (.int .u64 blaid) := by refine ⟨?_, ?_, ?_, ?_, ?_, ?_, ?_, ?_, ?_, ?_, ?_, ?_, ?_, ?_, ?_⟩ <;> (refine (hb1.cell ?_).trans ?_ <;> first | (first | (with_reducible assumption) | omega | (simp only [World.size_alloc, World.size_setCell, World.size_drew, World.heap_drewN] <;> omega) | (simp <;> omega)) | (first | (with_reducible assumption) | ((try simp (disch := first | omega | (simp only [World.size_alloc, World.size_setCell, World.size_drew, World.heap_drewN] <;> omega) | fail) only [World.cell?_alloc_past, World.cell?_alloc_at, World.frozen?_alloc_past, World.frozen?_alloc_at, World.frozen?_setCell, World.cell?_drew, World.frozen?_drew]) <;> first | (with_reducible assumption) | rfl)))
  have all_z : w.heap.size < w1.heap.size ∧ w.heap.size + 1 < w1.heap.size ∧ w.heap.size + 1 + 1 < w1.heap.size := by refine ⟨?_, ?_, ?_⟩ <;> (omega)
  obtain ⟨c_x0, c_x1, c_x2, c_a0, c_a1, c_a2, c_a3, c_a4, c_a5, c_b0, c_b1, c_b2, c_b3, c_b4, c_b5⟩ := all_c
  try clear all_c
  obtain ⟨z_x, z_a, z_b⟩ := all_z
  try clear all_z
  have hB1 : Below w.heap.size w w1 := by (repeat (first | (with_reducible exact Below.refl _ _) | (with_reducible assumption) | (with_reducible exact Hid.out (by with_reducible assumption)) | (with_reducible refine Below.alloc ?_ ?_ _) | (with_reducible refine Below.setCell ?_ ?_ _) | (with_reducible refine below_drewN ?_ _) | (with_reducible refine Below.drew ?_) | (with_reducible refine below_via (by with_reducible assumption) ?_ ?_) | (first | (with_reducible assumption) | omega | (simp only [World.size_alloc, World.size_setCell, World.size_drew, World.heap_drewN] <;> omega) | (simp <;> omega))))
  go_wp2_with fail
  refine (G1.out _).mono ?_
  rintro e v1 ⟨rfl, hv1⟩
  have hz_v1 := hv1.size
  try simp only [World.size_alloc, World.size_setCell] at hz_v1
  have all_c : v1.cell? ⟨w.heap.size, 0, none⟩ = some (.int .i64 l) ∧ v1.cell? ⟨w.heap.size, 1, none⟩ = some (.slice ma lm mc) ∧ v1.cell? ⟨w.heap.size, 2, none⟩ = some (.slice ica li icc) ∧ v1.cell? ⟨w.heap.size + 1, 0, none⟩ = some (.int .i64 aseg) ∧ v1.cell? ⟨w.heap.size + 1, 1, none⟩ = some (.slice awa alw awc) ∧ v1.cell? ⟨w.heap.size + 1, 2, none⟩ = some (.slice aka alk akc) ∧ v1.cell? ⟨w.heap.size + 1, 3, none⟩ = some (.slice ava alv avc) ∧ v1.cell? ⟨w.heap.size + 1, 4, none⟩ = some (.slice aca alc acc) ∧ v1.cell? ⟨w.heap.size + 1, 5, none⟩ = some (.int .u64 alaid) ∧ v1.cell? ⟨w.heap.size + 1 + 1, 0, none⟩ = some (.int .i64 bseg) ∧ v1.cell? ⟨w.heap.size + 1 + 1, 1, none⟩ = some (.slice bwa blw bwc) ∧ v1.cell? ⟨w.heap.size + 1 + 1, 2, none⟩ = some (.slice bka blk bkc) ∧ v1.cell? ⟨w.heap.size + 1 + 1, 3, none⟩ = some (.slice bva blv bvc) ∧ v1.cell? ⟨w.heap.size + 1 + 1, 4, none⟩ = some (.slice bca blc bcc) ∧ v1.cell? ⟨w.heap.size + 1 + 1, 5, none⟩ = some (.int .u64 blaid) := by refine ⟨?_, ?_, ?_, ?_, ?_, ?_, ?_, ?_, ?_, ?_, ?_, ?_, ?_, ?_, ?_⟩ <;> (refine (hv1.cell ?_).trans ?_ <;> first | (first | (with_reducible assumption) | omega | (simp only [World.size_alloc, World.size_setCell, World.size_drew, World.heap_drewN] <;> omega) | (simp <;> omega)) | (first | (with_reducible assumption) | ((try simp (disch := first | omega | (simp only [World.size_alloc, World.size_setCell, World.size_drew, World.heap_drewN] <;> omega) | fail) only [World.cell?_alloc_past, World.cell?_alloc_at, World.frozen?_alloc_past, World.frozen?_alloc_at, World.frozen?_setCell, World.cell?_drew, World.frozen?_drew]) <;> first | (with_reducible assumption) | rfl)))
  have all_z : w.heap.size < v1.heap.size ∧ w.heap.size + 1 < v1.heap.size ∧ w.heap.size + 1 + 1 < v1.heap.size := by refine ⟨?_, ?_, ?_⟩ <;> (omega)
  clear c_x0 c_x1 c_x2 c_a0 c_a1 c_a2 c_a3 c_a4 c_a5 c_b0 c_b1 c_b2 c_b3 c_b4 c_b5 z_x z_a z_b
  obtain ⟨c_x0, c_x1, c_x2, c_a0, c_a1, c_a2, c_a3, c_a4, c_a5, c_b0, c_b1, c_b2, c_b3, c_b4, c_b5⟩ := all_c
  try clear all_c
  obtain ⟨z_x, z_a, z_b⟩ := all_z
  try clear all_z
  have hV1 : Below w.heap.size w v1 := by (repeat (first | (with_reducible exact Below.refl _ _) | (with_reducible assumption) | (with_reducible exact Hid.out (by with_reducible assumption)) | (with_reducible refine Below.alloc ?_ ?_ _) | (with_reducible refine Below.setCell ?_ ?_ _) | (with_reducible refine below_drewN ?_ _) | (with_reducible refine Below.drew ?_) | (with_reducible refine below_via (by with_reducible assumption) ?_ ?_) | (first | (with_reducible assumption) | omega | (simp only [World.size_alloc, World.size_setCell, World.size_drew, World.heap_drewN] <;> omega) | (simp <;> omega))))
  go_wp2_with fail
  refine (G2.out _).mono ?_
  rintro e v2 ⟨rfl, hv2⟩
  have hz_v2 := hv2.size
  try simp only [World.size_alloc, World.size_setCell] at hz_v2
  have all_c : v2.cell? ⟨w.heap.size, 0, none⟩ = some (.int .i64 l) ∧ v2.cell? ⟨w.heap.size, 1, none⟩ = some (.slice ma lm mc) ∧ v2.cell? ⟨w.heap.size, 2, none⟩ = some (.slice ica li icc) ∧ v2.cell? ⟨w.heap.size + 1, 0, none⟩ = some (.int .i64 aseg) ∧ v2.cell? ⟨w.heap.size + 1, 1, none⟩ = some (.slice awa alw awc) ∧ v2.cell? ⟨w.heap.size + 1, 2, none⟩ = some (.slice aka alk akc) ∧ v2.cell? ⟨w.heap.size + 1, 3, none⟩ = some (.slice ava alv avc) ∧ v2.cell? ⟨w.heap.size + 1, 4, none⟩ = some (.slice aca alc acc) ∧ v2.cell? ⟨w.heap.size + 1, 5, none⟩ = some (.int .u64 alaid) ∧ v2.cell? ⟨w.heap.size + 1 + 1, 0, none⟩ = some (.int .i64 bseg) ∧ v2.cell? ⟨w.heap.size + 1 + 1, 1, none⟩ = some (.slice bwa blw bwc) ∧ v2.cell? ⟨w.heap.size + 1 + 1, 2, none⟩ = some (.slice bka blk bkc) ∧ v2.cell? ⟨w.heap.size + 1 + 1, 3, none⟩ = some (.slice bva blv bvc) ∧ v2.cell? ⟨w.heap.size + 1 + 1, 4, none⟩ = some (.slice bca blc bcc) ∧ v2.cell? ⟨w.heap.size + 1 + 1, 5, none⟩ = some (.int .u64 blaid) := by refine ⟨?_, ?_, ?_, ?_, ?_, ?_, ?_, ?_, ?_, ?_, ?_, ?_, ?_, ?_, ?_⟩ <;> (refine (hv2.cell ?_).trans ?_ <;> first | (first | (with_reducible assumption) | omega | (simp only [World.size_alloc, World.size_setCell, World.size_drew, World.heap_drewN] <;> omega) | (simp <;> omega)) | (first | (with_reducible assumption) | ((try simp (disch := first | omega | (simp only [World.size_alloc, World.size_setCell, World.size_drew, World.heap_drewN] <;> omega) | fail) only [World.cell?_alloc_past, World.cell?_alloc_at, World.frozen?_alloc_past, World.frozen?_alloc_at, World.frozen?_setCell, World.cell?_drew, World.frozen?_drew]) <;> first | (with_reducible assumption) | rfl)))
  have all_z : w.heap.size < v2.heap.size ∧ w.heap.size + 1 < v2.heap.size ∧ w.heap.size + 1 + 1 < v2.heap.size := by refine ⟨?_, ?_, ?_⟩ <;> (omega)
  clear c_x0 c_x1 c_x2 c_a0 c_a1 c_a2 c_a3 c_a4 c_a5 c_b0 c_b1 c_b2 c_b3 c_b4 c_b5 z_x z_a z_b
  obtain ⟨c_x0, c_x1, c_x2, c_a0, c_a1, c_a2, c_a3, c_a4, c_a5, c_b0, c_b1, c_b2, c_b3, c_b4, c_b5⟩ := all_c
  try clear all_c
  obtain ⟨z_x, z_a, z_b⟩ := all_z
  try clear all_z
  have hV2 : Below w.heap.size w v2 := by (repeat (first | (with_reducible exact Below.refl _ _) | (with_reducible assumption) | (with_reducible exact Hid.out (by with_reducible assumption)) | (with_reducible refine Below.alloc ?_ ?_ _) | (with_reducible refine Below.setCell ?_ ?_ _) | (with_reducible refine below_drewN ?_ _) | (with_reducible refine Below.drew ?_) | (with_reducible refine below_via (by with_reducible assumption) ?_ ?_) | (first | (with_reducible assumption) | omega | (simp only [World.size_alloc, World.size_setCell, World.size_drew, World.heap_drewN] <;> omega) | (simp <;> omega))))
  go_wp2_with fail
  refine (G3.out _).mono ?_
  rintro e v3 ⟨rfl, hv3⟩
  have hz_v3 := hv3.size
  try simp only [World.size_alloc, World.size_setCell] at hz_v3
  have all_c : v3.cell? ⟨w.heap.size, 0, none⟩ = some (.int .i64 l) ∧ v3.cell? ⟨w.heap.size, 1, none⟩ = some (.slice ma lm mc) ∧ v3.cell? ⟨w.heap.size, 2, none⟩ = some (.slice ica li icc) ∧ v3.cell? ⟨w.heap.size + 1, 0, none⟩ = some (.int .i64 aseg) ∧ v3.cell? ⟨w.heap.size + 1, 1, none⟩ = some (.slice awa alw awc) ∧ v3.cell? ⟨w.heap.size + 1, 2, none⟩ = some (.slice aka alk akc) ∧ v3.cell? ⟨w.heap.size + 1, 3, none⟩ = some (.slice ava alv avc) ∧ v3.cell? ⟨w.heap.size + 1, 4, none⟩ = some (.slice aca alc acc) ∧ v3.cell? ⟨w.heap.size + 1, 5, none⟩ = some (.int .u64 alaid) ∧ v3.cell? ⟨w.heap.size + 1 + 1, 0, none⟩ = some (.int .i64 bseg) ∧ v3.cell? ⟨w.heap.size + 1 + 1, 1, none⟩ = some (.slice bwa blw bwc) ∧ v3.cell? ⟨w.heap.size + 1 + 1, 2, none⟩ = some (.slice bka blk bkc) ∧ v3.cell? ⟨w.heap.size + 1 + 1, 3, none⟩ = some (.slice bva blv bvc) ∧ v3.cell? ⟨w.heap.size + 1 + 1, 4, none⟩ = some (.slice bca blc bcc) ∧ v3.cell? ⟨w.heap.size + 1 + 1, 5, none⟩ = some (.int .u64 blaid) := by refine ⟨?_, ?_, ?_, ?_, ?_, ?_, ?_, ?_, ?_, ?_, ?_, ?_, ?_, ?_, ?_⟩ <;> (refine (hv3.cell ?_).trans ?_ <;> first | (first | (with_reducible assumption) | omega | (simp only [World.size_alloc, World.size_setCell, World.size_drew, World.heap_drewN] <;> omega) | (simp <;> omega)) | (first | (with_reducible assumption) | ((try simp (disch := first | omega | (simp only [World.size_alloc, World.size_setCell, World.size_drew, World.heap_drewN] <;> omega) | fail) only [World.cell?_alloc_past, World.cell?_alloc_at, World.frozen?_alloc_past, World.frozen?_alloc_at, World.frozen?_setCell, World.cell?_drew, World.frozen?_drew]) <;> first | (with_reducible assumption) | rfl)))
  have all_z : w.heap.size < v3.heap.size ∧ w.heap.size + 1 < v3.heap.size ∧ w.heap.size + 1 + 1 < v3.heap.size := by refine ⟨?_, ?_, ?_⟩ <;> (omega)
  clear c_x0 c_x1 c_x2 c_a0 c_a1 c_a2 c_a3 c_a4 c_a5 c_b0 c_b1 c_b2 c_b3 c_b4 c_b5 z_x z_a z_b
  obtain ⟨c_x0, c_x1, c_x2, c_a0, c_a1, c_a2, c_a3, c_a4, c_a5, c_b0, c_b1, c_b2, c_b3, c_b4, c_b5⟩ := all_c
  try clear all_c
  obtain ⟨z_x, z_a, z_b⟩ := all_z
  try clear all_z
  have hV3 : Below w.heap.size w v3 := by (repeat (first | (with_reducible exact Below.refl _ _) | (with_reducible assumption) | (with_reducible exact Hid.out (by with_reducible assumption)) | (with_reducible refine Below.alloc ?_ ?_ _) | (with_reducible refine Below.setCell ?_ ?_ _) | (with_reducible refine below_drewN ?_ _) | (with_reducible refine Below.drew ?_) | (with_reducible refine below_via (by with_reducible assumption) ?_ ?_) | (first | (with_reducible assumption) | omega | (simp only [World.size_alloc, World.size_setCell, World.size_drew, World.heap_drewN] <;> omega) | (simp <;> omega))))
  go_wp2
  go_ret
  exact ⟨rfl, hV3⟩

set_option maxRecDepth 100000 in
set_option maxHeartbeats 2000000 in
theorem MT_no (l : Int) (ma ica : Option Addr) (mc icc lm li : Nat) (aseg : Int) (awa aka ava aca : Option Addr) (awc akc avc acc alw alk alv alc : Nat) (alaid : Int) (bseg : Int) (bwa bka bva bca : Option Addr) (bwc bkc bvc bcc blw blk blv blc : Nat) (blaid : Int) (w : World) (L x : Int) (bm bc : List Int) (hx : x ≠ 0) (hm : bm = []) (G1 : Hid (∀ W, Calls Try.prog 9 #[.agg #[.int .i64 l, .slice ma lm mc, .slice ica li icc]] W (AnsB W (.bool false)))) (G2 : Hid (∀ W, Calls Try.prog 10 #[.agg #[.int .i64 aseg, .slice awa alw awc, .slice aka alk akc, .slice ava alv avc, .slice aca alc acc, .int .u64 alaid], .int .i64 600] W (AnsB W (.bool false)))) (G3 : Hid (∀ W, Calls Try.prog 10 #[.agg #[.int .i64 bseg, .slice bwa blw bwc, .slice bka blk bkc, .slice bva blv bvc, .slice bca blc bcc, .int .u64 blaid], .int .i64 600] W (AnsB W (.bool false))))
    (FT : Hid (∀ W, Below w.heap.size w W → Calls Try.prog 20 #[.agg #[.int .i64 l, .slice ma lm mc, .slice ica li icc], .agg #[.int .i64 aseg, .slice awa alw awc, .slice aka alk akc, .slice ava alv avc, .slice aca alc acc, .int .u64 alaid], .agg #[.int .i64 bseg, .slice bwa blw bwc, .slice bka blk bkc, .slice bva blv bvc, .slice bca blc bcc, .int .u64 blaid]] W (FreshIx2 W L bm bc (.int .i64 x))))
    (BI : Hid (∀ W, Below w.heap.size w W → Calls Try.prog 23 #[.agg #[.int .i64 bseg, .slice bwa blw bwc, .slice bka blk bkc, .slice bva blv bvc, .slice bca blc bcc, .int .u64 blaid]] W (FreshIx2 W L bm bc (.int .i64 x)))) :
    Calls Try.prog 8 #[.agg #[.int .i64 l, .slice ma lm mc, .slice ica li icc], .agg #[.int .i64 aseg, .slice awa alw awc, .slice aka alk akc, .slice ava alv avc, .slice aca alc acc, .int .u64 alaid], .agg #[.int .i64 bseg, .slice bwa blw bwc, .slice bka blk bkc, .slice bva blv bvc, .slice bca blc bcc, .int .u64 blaid]] w (AnsB w (.bool true)) := by
  have AL := Lib.hid alive20_ok
  have g1 : (x != 0) = true := by simpa using hx
  have g2 : (x == x) = true := by simp
  have HM : Hid (bm.length = 0) := Lib.hid (by rw [hm]; rfl)
  clear hx hm
  go_enter Try.func8, Try.ntmps8
  go_wp2_with fail
  refine (AL.out _).mono ?_
  rintro e w1 ⟨rfl, hb1⟩
  have hz_w1 := hb1.size
  try simp only [World.size_alloc, World.size_setCell] at hz_w1
  have all_c : w1.cell? ⟨w.heap.size, 0, none⟩ = some (.int .i64 l) ∧ w1.cell? ⟨w.heap.size, 1, none⟩ = some (.slice ma lm mc) ∧ w1.cell? ⟨w.heap.size, 2, none⟩ = some (.slice ica li icc) ∧ w1.cell? ⟨w.heap.size + 1, 0, none⟩ = some (.int .i64 aseg) ∧ w1.cell? ⟨w.heap.size + 1, 1, none⟩ = some (.slice awa alw awc) ∧ w1.cell? ⟨w.heap.size + 1, 2, none⟩ = some (.slice aka alk akc) ∧ w1.cell? ⟨w.heap.size + 1, 3, none⟩ = some (.slice ava alv avc) ∧ w1.cell? ⟨w.heap.size + 1, 4, none⟩ = some (.slice aca alc acc) ∧ w1.cell? ⟨w.heap.size + 1, 5, none⟩ = some (.int .u64 alaid) ∧ w1.cell? ⟨w.heap.size + 1 + 1, 0, none⟩ = some (.int .i64 bseg) ∧ w1.cell? ⟨w.heap.size + 1 + 1, 1, none⟩ = some (.slice bwa blw bwc) ∧ w1.cell? ⟨w.heap.size + 1 + 1, 2, none⟩ = some (.slice bka blk bkc) ∧ w1.cell? ⟨w.heap.size + 1 + 1, 3, none⟩ = some (.slice bva blv bvc) ∧ w1.cell? ⟨w.heap.size + 1 + 1, 4, none⟩ = some (.slice bca blc bcc) ∧ w1.cell? ⟨w.heap.size + 1 + 1, 5, none⟩ = some (.int .u64 blaid) := by refine ⟨?_, ?_, ?_, ?_, ?_, ?_, ?_, ?_, ?_, ?_, ?_, ?_, ?_, ?_, ?_⟩ <;> (refine (hb1.cell ?_).trans ?_ <;> first | (first | (with_reducible assumption) | omega | (simp only [World.size_alloc, World.size_setCell, World.size_drew, World.heap_drewN] <;> omega) | (simp <;> omega)) | (first | (with_reducible assumption) | ((try simp (disch := first | omega | (simp only [World.size_alloc, World.size_setCell, World.size_drew, World.heap_drewN] <;> omega) | fail) only [World.cell?_alloc_past, World.cell?_alloc_at, World.frozen?_alloc_past, World.frozen?_alloc_at, World.frozen?_setCell, World.cell?_drew, World.frozen?_drew]) <;> first | (with_reducible assumption) | rfl)))
  have all_z : w.heap.size < w1.heap.size ∧ w.heap.size + 1 < w1.heap.size ∧ w.heap.size + 1 + 1 < w1.heap.size := by refine ⟨?_, ?_, ?_⟩ <;> (omega)
  obtain ⟨c_x0, c_x1, c_x2, c_a0, c_a1, c_a2, c_a3, c_a4, c_a5, c_b0, c_b1, c_b2, c_b3, c_b4, c_b5⟩ := all_c
  try clear all_c
  obtain ⟨z_x, z_a, z_b⟩ := all_z
  try clear all_z
  have hB1 : Below w.heap.size w w1 := by (repeat (first | (with_reducible exact Below.refl _ _) | (with_reducible assumption) | (with_reducible exact Hid.out (by with_reducible assumption)) | (with_reducible refine Below.alloc ?_ ?_ _) | (with_reducible refine Below.setCell ?_ ?_ _) | (with_reducible refine below_drewN ?_ _) | (with_reducible refine Below.drew ?_) | (with_reducible refine below_via (by with_reducible assumption) ?_ ?_) | (first | (with_reducible assumption) | omega | (simp only [World.size_alloc, World.size_setCell, World.size_drew, World.heap_drewN] <;> omega) | (simp <;> omega))))
  go_wp2_with fail
  refine (G1.out _).mono ?_
  rintro e v1 ⟨rfl, hv1⟩
  have hz_v1 := hv1.size
  try simp only [World.size_alloc, World.size_setCell] at hz_v1
  have all_c : v1.cell? ⟨w.heap.size, 0, none⟩ = some (.int .i64 l) ∧ v1.cell? ⟨w.heap.size, 1, none⟩ = some (.slice ma lm mc) ∧ v1.cell? ⟨w.heap.size, 2, none⟩ = some (.slice ica li icc) ∧ v1.cell? ⟨w.heap.size + 1, 0, none⟩ = some (.int .i64 aseg) ∧ v1.cell? ⟨w.heap.size + 1, 1, none⟩ = some (.slice awa alw awc) ∧ v1.cell? ⟨w.heap.size + 1, 2, none⟩ = some (.slice aka alk akc) ∧ v1.cell? ⟨w.heap.size + 1, 3, none⟩ = some (.slice ava alv avc) ∧ v1.cell? ⟨w.heap.size + 1, 4, none⟩ = some (.slice aca alc acc) ∧ v1.cell? ⟨w.heap.size + 1, 5, none⟩ = some (.int .u64 alaid) ∧ v1.cell? ⟨w.heap.size + 1 + 1, 0, none⟩ = some (.int .i64 bseg) ∧ v1.cell? ⟨w.heap.size + 1 + 1, 1, none⟩ = some (.slice bwa blw bwc) ∧ v1.cell? ⟨w.heap.size + 1 + 1, 2, none⟩ = some (.slice bka blk bkc) ∧ v1.cell? ⟨w.heap.size + 1 + 1, 3, none⟩ = some (.slice bva blv bvc) ∧ v1.cell? ⟨w.heap.size + 1 + 1, 4, none⟩ = some (.slice bca blc bcc) ∧ v1.cell? ⟨w.heap.size + 1 + 1, 5, none⟩ = some (.int .u64 blaid) := by refine ⟨?_, ?_, ?_, ?_, ?_, ?_, ?_, ?_, ?_, ?_, ?_, ?_, ?_, ?_, ?_⟩ <;> (refine (hv1.cell ?_).trans ?_ <;> first | (first | (with_reducible assumption) | omega | (simp only [World.size_alloc, World.size_setCell, World.size_drew, World.heap_drewN] <;> omega) | (simp <;> omega)) | (first | (with_reducible assumption) | ((try simp (disch := first | omega | (simp only [World.size_alloc, World.size_setCell, World.size_drew, World.heap_drewN] <;> omega) | fail) only [World.cell?_alloc_past, World.cell?_alloc_at, World.frozen?_alloc_past, World.frozen?_alloc_at, World.frozen?_setCell, World.cell?_drew, World.frozen?_drew]) <;> first | (with_reducible assumption) | rfl)))
  have all_z : w.heap.size < v1.heap.size ∧ w.heap.size + 1 < v1.heap.size ∧ w.heap.size + 1 + 1 < v1.heap.size := by refine ⟨?_, ?_, ?_⟩ <;> (omega)
  clear c_x0 c_x1 c_x2 c_a0 c_a1 c_a2 c_a3 c_a4 c_a5 c_b0 c_b1 c_b2 c_b3 c_b4 c_b5 z_x z_a z_b
  obtain ⟨c_x0, c_x1, c_x2, c_a0, c_a1, c_a2, c_a3, c_a4, c_a5, c_b0, c_b1, c_b2, c_b3, c_b4, c_b5⟩ := all_c
  try clear all_c
  obtain ⟨z_x, z_a, z_b⟩ := all_z
  try clear all_z
  have hV1 : Below w.heap.size w v1 := by (repeat (first | (with_reducible exact Below.refl _ _) | (with_reducible assumption) | (with_reducible exact Hid.out (by with_reducible assumption)) | (with_reducible refine Below.alloc ?_ ?_ _) | (with_reducible refine Below.setCell ?_ ?_ _) | (with_reducible refine below_drewN ?_ _) | (with_reducible refine Below.drew ?_) | (with_reducible refine below_via (by with_reducible assumption) ?_ ?_) | (first | (with_reducible assumption) | omega | (simp only [World.size_alloc, World.size_setCell, World.size_drew, World.heap_drewN] <;> omega) | (simp <;> omega))))
  go_wp2_with fail
  refine (G2.out _).mono ?_
  rintro e v2 ⟨rfl, hv2⟩
  have hz_v2 := hv2.size
  try simp only [World.size_alloc, World.size_setCell] at hz_v2
  have all_c : v2.cell? ⟨w.heap.size, 0, none⟩ = some (.int .i64 l) ∧ v2.cell? ⟨w.heap.size, 1, none⟩ = some (.slice ma lm mc) ∧ v2.cell? ⟨w.heap.size, 2, none⟩ = some (.slice ica li icc) ∧ v2.cell? ⟨w.heap.size + 1, 0, none⟩ = some (.int .i64 aseg) ∧ v2.cell? ⟨w.heap.size + 1, 1, none⟩ = some (.slice awa alw awc) ∧ v2.cell? ⟨w.heap.size + 1, 2, none⟩ = some (.slice aka alk akc) ∧ v2.cell? ⟨w.heap.size + 1, 3, none⟩ = some (.slice ava alv avc) ∧ v2.cell? ⟨w.heap.size + 1, 4, none⟩ = some (.slice aca alc acc) ∧ v2.cell? ⟨w.heap.size + 1, 5, none⟩ = some (.int .u64 alaid) ∧ v2.cell? ⟨w.heap.size + 1 + 1, 0, none⟩ = some (.int .i64 bseg) ∧ v2.cell? ⟨w.heap.size + 1 + 1, 1, none⟩ = some (.slice bwa blw bwc) ∧ v2.cell? ⟨w.heap.size + 1 + 1, 2, none⟩ = some (.slice bka blk bkc) ∧ v2.cell? ⟨w.heap.size + 1 + 1, 3, none⟩ = some (.slice bva blv bvc) ∧ v2.cell? ⟨w.heap.size + 1 + 1, 4, none⟩ = some (.slice bca blc bcc) ∧ v2.cell? ⟨w.heap.size + 1 + 1, 5, none⟩ = some (.int .u64 blaid) := by refine ⟨?_, ?_, ?_, ?_, ?_, ?_, ?_, ?_, ?_, ?_, ?_, ?_, ?_, ?_, ?_⟩ <;> (refine (hv2.cell ?_).trans ?_ <;> first | (first | (with_reducible assumption) | omega | (simp only [World.size_alloc, World.size_setCell, World.size_drew, World.heap_drewN] <;> omega) | (simp <;> omega)) | (first | (with_reducible assumption) | ((try simp (disch := first | omega | (simp only [World.size_alloc, World.size_setCell, World.size_drew, World.heap_drewN] <;> omega) | fail) only [World.cell?_alloc_past, World.cell?_alloc_at, World.frozen?_alloc_past, World.frozen?_alloc_at, World.frozen?_setCell, World.cell?_drew, World.frozen?_drew]) <;> first | (with_reducible assumption) | rfl)))
  have all_z : w.heap.size < v2.heap.size ∧ w.heap.size + 1 < v2.heap.size ∧ w.heap.size + 1 + 1 < v2.heap.size := by refine ⟨?_, ?_, ?_⟩ <;> (omega)
  clear c_x0 c_x1 c_x2 c_a0 c_a1 c_a2 c_a3 c_a4 c_a5 c_b0 c_b1 c_b2 c_b3 c_b4 c_b5 z_x z_a z_b
  obtain ⟨c_x0, c_x1, c_x2, c_a0, c_a1, c_a2, c_a3, c_a4, c_a5, c_b0, c_b1, c_b2, c_b3, c_b4, c_b5⟩ := all_c
  try clear all_c
  obtain ⟨z_x, z_a, z_b⟩ := all_z
  try clear all_z
  have hV2 : Below w.heap.size w v2 := by (repeat (first | (with_reducible exact Below.refl _ _) | (with_reducible assumption) | (with_reducible exact Hid.out (by with_reducible assumption)) | (with_reducible refine Below.alloc ?_ ?_ _) | (with_reducible refine Below.setCell ?_ ?_ _) | (with_reducible refine below_drewN ?_ _) | (with_reducible refine Below.drew ?_) | (with_reducible refine below_via (by with_reducible assumption) ?_ ?_) | (first | (with_reducible assumption) | omega | (simp only [World.size_alloc, World.size_setCell, World.size_drew, World.heap_drewN] <;> omega) | (simp <;> omega))))
  go_wp2_with fail
  refine (G3.out _).mono ?_
  rintro e v3 ⟨rfl, hv3⟩
  have hz_v3 := hv3.size
  try simp only [World.size_alloc, World.size_setCell] at hz_v3
  have all_c : v3.cell? ⟨w.heap.size, 0, none⟩ = some (.int .i64 l) ∧ v3.cell? ⟨w.heap.size, 1, none⟩ = some (.slice ma lm mc) ∧ v3.cell? ⟨w.heap.size, 2, none⟩ = some (.slice ica li icc) ∧ v3.cell? ⟨w.heap.size + 1, 0, none⟩ = some (.int .i64 aseg) ∧ v3.cell? ⟨w.heap.size + 1, 1, none⟩ = some (.slice awa alw awc) ∧ v3.cell? ⟨w.heap.size + 1, 2, none⟩ = some (.slice aka alk akc) ∧ v3.cell? ⟨w.heap.size + 1, 3, none⟩ = some (.slice ava alv avc) ∧ v3.cell? ⟨w.heap.size + 1, 4, none⟩ = some (.slice aca alc acc) ∧ v3.cell? ⟨w.heap.size + 1, 5, none⟩ = some (.int .u64 alaid) ∧ v3.cell? ⟨w.heap.size + 1 + 1, 0, none⟩ = some (.int .i64 bseg) ∧ v3.cell? ⟨w.heap.size + 1 + 1, 1, none⟩ = some (.slice bwa blw bwc) ∧ v3.cell? ⟨w.heap.size + 1 + 1, 2, none⟩ = some (.slice bka blk bkc) ∧ v3.cell? ⟨w.heap.size + 1 + 1, 3, none⟩ = some (.slice bva blv bvc) ∧ v3.cell? ⟨w.heap.size + 1 + 1, 4, none⟩ = some (.slice bca blc bcc) ∧ v3.cell? ⟨w.heap.size + 1 + 1, 5, none⟩ = some (.int .u64 blaid) := by refine ⟨?_, ?_, ?_, ?_, ?_, ?_, ?_, ?_, ?_, ?_, ?_, ?_, ?_, ?_, ?_⟩ <;> (refine (hv3.cell ?_).trans ?_ <;> first | (first | (with_reducible assumption) | omega | (simp only [World.size_alloc, World.size_setCell, World.size_drew, World.heap_drewN] <;> omega) | (simp <;> omega)) | (first | (with_reducible assumption) | ((try simp (disch := first | omega | (simp only [World.size_alloc, World.size_setCell, World.size_drew, World.heap_drewN] <;> omega) | fail) only [World.cell?_alloc_past, World.cell?_alloc_at, World.frozen?_alloc_past, World.frozen?_alloc_at, World.frozen?_setCell, World.cell?_drew, World.frozen?_drew]) <;> first | (with_reducible assumption) | rfl)))
  have all_z : w.heap.size < v3.heap.size ∧ w.heap.size + 1 < v3.heap.size ∧ w.heap.size + 1 + 1 < v3.heap.size := by refine ⟨?_, ?_, ?_⟩ <;> (omega)
  clear c_x0 c_x1 c_x2 c_a0 c_a1 c_a2 c_a3 c_a4 c_a5 c_b0 c_b1 c_b2 c_b3 c_b4 c_b5 z_x z_a z_b
  obtain ⟨c_x0, c_x1, c_x2, c_a0, c_a1, c_a2, c_a3, c_a4, c_a5, c_b0, c_b1, c_b2, c_b3, c_b4, c_b5⟩ := all_c
  try clear all_c
  obtain ⟨z_x, z_a, z_b⟩ := all_z
  try clear all_z
  have hV3 : Below w.heap.size w v3 := by (repeat (first | (with_reducible exact Below.refl _ _) | (with_reducible assumption) | (with_reducible exact Hid.out (by with_reducible assumption)) | (with_reducible refine Below.alloc ?_ ?_ _) | (with_reducible refine Below.setCell ?_ ?_ _) | (with_reducible refine below_drewN ?_ _) | (with_reducible refine Below.drew ?_) | (with_reducible refine below_via (by with_reducible assumption) ?_ ?_) | (first | (with_reducible assumption) | omega | (simp only [World.size_alloc, World.size_setCell, World.size_drew, World.heap_drewN] <;> omega) | (simp <;> omega))))
  go_wp2_with fail
  refine (FT.out _ hV3).mono ?_
  rintro e w3 ⟨v, u, rfl, o1, o2, hb3⟩
  have hz_w3 := hb3.size
  try simp only [World.size_alloc, World.size_setCell] at hz_w3
  have all_c : w3.cell? ⟨w.heap.size, 0, none⟩ = some (.int .i64 l) ∧ w3.cell? ⟨w.heap.size, 1, none⟩ = some (.slice ma lm mc) ∧ w3.cell? ⟨w.heap.size, 2, none⟩ = some (.slice ica li icc) ∧ w3.cell? ⟨w.heap.size + 1, 0, none⟩ = some (.int .i64 aseg) ∧ w3.cell? ⟨w.heap.size + 1, 1, none⟩ = some (.slice awa alw awc) ∧ w3.cell? ⟨w.heap.size + 1, 2, none⟩ = some (.slice aka alk akc) ∧ w3.cell? ⟨w.heap.size + 1, 3, none⟩ = some (.slice ava alv avc) ∧ w3.cell? ⟨w.heap.size + 1, 4, none⟩ = some (.slice aca alc acc) ∧ w3.cell? ⟨w.heap.size + 1, 5, none⟩ = some (.int .u64 alaid) ∧ w3.cell? ⟨w.heap.size + 1 + 1, 0, none⟩ = some (.int .i64 bseg) ∧ w3.cell? ⟨w.heap.size + 1 + 1, 1, none⟩ = some (.slice bwa blw bwc) ∧ w3.cell? ⟨w.heap.size + 1 + 1, 2, none⟩ = some (.slice bka blk bkc) ∧ w3.cell? ⟨w.heap.size + 1 + 1, 3, none⟩ = some (.slice bva blv bvc) ∧ w3.cell? ⟨w.heap.size + 1 + 1, 4, none⟩ = some (.slice bca blc bcc) ∧ w3.cell? ⟨w.heap.size + 1 + 1, 5, none⟩ = some (.int .u64 blaid) := by refine ⟨?_, ?_, ?_, ?_, ?_, ?_, ?_, ?_, ?_, ?_, ?_, ?_, ?_, ?_, ?_⟩ <;> (refine (hb3.cell ?_).trans ?_ <;> first | (first | (with_reducible assumption) | omega | (simp only [World.size_alloc, World.size_setCell, World.size_drew, World.heap_drewN] <;> omega) | (simp <;> omega)) | (first | (with_reducible assumption) | ((try simp (disch := first | omega | (simp only [World.size_alloc, World.size_setCell, World.size_drew, World.heap_drewN] <;> omega) | fail) only [World.cell?_alloc_past, World.cell?_alloc_at, World.frozen?_alloc_past, World.frozen?_alloc_at, World.frozen?_setCell, World.cell?_drew, World.frozen?_drew]) <;> first | (with_reducible assumption) | rfl)))
  have all_z : w.heap.size < w3.heap.size ∧ w.heap.size + 1 < w3.heap.size ∧ w.heap.size + 1 + 1 < w3.heap.size := by refine ⟨?_, ?_, ?_⟩ <;> (omega)
  clear c_x0 c_x1 c_x2 c_a0 c_a1 c_a2 c_a3 c_a4 c_a5 c_b0 c_b1 c_b2 c_b3 c_b4 c_b5 z_x z_a z_b
  obtain ⟨c_x0, c_x1, c_x2, c_a0, c_a1, c_a2, c_a3, c_a4, c_a5, c_b0, c_b1, c_b2, c_b3, c_b4, c_b5⟩ := all_c
  try clear all_c
  obtain ⟨z_x, z_a, z_b⟩ := all_z
  try clear all_z
  have hB3 : Below w.heap.size w w3 := by (repeat (first | (with_reducible exact Below.refl _ _) | (with_reducible assumption) | (with_reducible exact Hid.out (by with_reducible assumption)) | (with_reducible refine Below.alloc ?_ ?_ _) | (with_reducible refine Below.setCell ?_ ?_ _) | (with_reducible refine below_drewN ?_ _) | (with_reducible refine Below.drew ?_) | (with_reducible refine below_via (by with_reducible assumption) ?_ ?_) | (first | (with_reducible assumption) | omega | (simp only [World.size_alloc, World.size_setCell, World.size_drew, World.heap_drewN] <;> omega) | (simp <;> omega))))
  obtain ⟨ma', mc', rfl, -⟩ := owns_news o1
  obtain ⟨ca', cc', rfl, -⟩ := owns_news o2
  rw [HM.out]
  clear o1 o2
  go_wp2_with fail
  refine (BI.out _ (by (repeat (first | (with_reducible exact Below.refl _ _) | (with_reducible assumption) | (with_reducible exact Hid.out (by with_reducible assumption)) | (with_reducible refine Below.alloc ?_ ?_ _) | (with_reducible refine Below.setCell ?_ ?_ _) | (with_reducible refine below_drewN ?_ _) | (with_reducible refine Below.drew ?_) | (with_reducible refine below_via (by with_reducible assumption) ?_ ?_) | (first | (with_reducible assumption) | omega | (simp only [World.size_alloc, World.size_setCell, World.size_drew, World.heap_drewN] <;> omega) | (simp <;> omega)))))).mono ?_
  rintro e w4 ⟨v, u, rfl, o1, o2, hb4⟩
  have hz_w4 := hb4.size
  try simp only [World.size_alloc, World.size_setCell] at hz_w4
  have all_c : w4.cell? ⟨w.heap.size, 0, none⟩ = some (.int .i64 l) ∧ w4.cell? ⟨w.heap.size, 1, none⟩ = some (.slice ma lm mc) ∧ w4.cell? ⟨w.heap.size, 2, none⟩ = some (.slice ica li icc) ∧ w4.cell? ⟨w.heap.size + 1, 0, none⟩ = some (.int .i64 aseg) ∧ w4.cell? ⟨w.heap.size + 1, 1, none⟩ = some (.slice awa alw awc) ∧ w4.cell? ⟨w.heap.size + 1, 2, none⟩ = some (.slice aka alk akc) ∧ w4.cell? ⟨w.heap.size + 1, 3, none⟩ = some (.slice ava alv avc) ∧ w4.cell? ⟨w.heap.size + 1, 4, none⟩ = some (.slice aca alc acc) ∧ w4.cell? ⟨w.heap.size + 1, 5, none⟩ = some (.int .u64 alaid) ∧ w4.cell? ⟨w.heap.size + 1 + 1, 0, none⟩ = some (.int .i64 bseg) ∧ w4.cell? ⟨w.heap.size + 1 + 1, 1, none⟩ = some (.slice bwa blw bwc) ∧ w4.cell? ⟨w.heap.size + 1 + 1, 2, none⟩ = some (.slice bka blk bkc) ∧ w4.cell? ⟨w.heap.size + 1 + 1, 3, none⟩ = some (.slice bva blv bvc) ∧ w4.cell? ⟨w.heap.size + 1 + 1, 4, none⟩ = some (.slice bca blc bcc) ∧ w4.cell? ⟨w.heap.size + 1 + 1, 5, none⟩ = some (.int .u64 blaid) ∧ w4.cell? ⟨w3.heap.size, 0, none⟩ = some (.int .i64 L) ∧ w4.cell? ⟨w3.heap.size, 1, none⟩ = some (.slice ma' 0 mc') ∧ w4.cell? ⟨w3.heap.size, 2, none⟩ = some (.slice ca' bc.length cc') := by refine ⟨?_, ?_, ?_, ?_, ?_, ?_, ?_, ?_, ?_, ?_, ?_, ?_, ?_, ?_, ?_, ?_, ?_, ?_⟩ <;> (refine (hb4.cell ?_).trans ?_ <;> first | (first | (with_reducible assumption) | omega | (simp only [World.size_alloc, World.size_setCell, World.size_drew, World.heap_drewN] <;> omega) | (simp <;> omega)) | (first | (with_reducible assumption) | ((try simp (disch := first | omega | (simp only [World.size_alloc, World.size_setCell, World.size_drew, World.heap_drewN] <;> omega) | fail) only [World.cell?_alloc_past, World.cell?_alloc_at, World.frozen?_alloc_past, World.frozen?_alloc_at, World.frozen?_setCell, World.cell?_drew, World.frozen?_drew]) <;> first | (with_reducible assumption) | rfl)))
  have all_z : w.heap.size < w4.heap.size ∧ w.heap.size + 1 < w4.heap.size ∧ w.heap.size + 1 + 1 < w4.heap.size ∧ w3.heap.size < w4.heap.size := by refine ⟨?_, ?_, ?_, ?_⟩ <;> (omega)
  clear c_x0 c_x1 c_x2 c_a0 c_a1 c_a2 c_a3 c_a4 c_a5 c_b0 c_b1 c_b2 c_b3 c_b4 c_b5 z_x z_a z_b
  obtain ⟨c_x0, c_x1, c_x2, c_a0, c_a1, c_a2, c_a3, c_a4, c_a5, c_b0, c_b1, c_b2, c_b3, c_b4, c_b5, c_y0, c_y1, c_y2⟩ := all_c
  try clear all_c
  obtain ⟨z_x, z_a, z_b, z_y⟩ := all_z
  try clear all_z
  have hB4 : Below w.heap.size w w4 := by (repeat (first | (with_reducible exact Below.refl _ _) | (with_reducible assumption) | (with_reducible exact Hid.out (by with_reducible assumption)) | (with_reducible refine Below.alloc ?_ ?_ _) | (with_reducible refine Below.setCell ?_ ?_ _) | (with_reducible refine below_drewN ?_ _) | (with_reducible refine Below.drew ?_) | (with_reducible refine below_via (by with_reducible assumption) ?_ ?_) | (first | (with_reducible assumption) | omega | (simp only [World.size_alloc, World.size_setCell, World.size_drew, World.heap_drewN] <;> omega) | (simp <;> omega))))
  obtain ⟨ma4, mc4, rfl, -⟩ := owns_news o1
  obtain ⟨ca4, cc4, rfl, -⟩ := owns_news o2
  clear o1 o2
  go_wp2
  go_ret
  exact ⟨rfl, by (repeat (first | (with_reducible exact Below.refl _ _) | (with_reducible assumption) | (with_reducible exact Hid.out (by with_reducible assumption)) | (with_reducible refine Below.alloc ?_ ?_ _) | (with_reducible refine Below.setCell ?_ ?_ _) | (with_reducible refine below_drewN ?_ _) | (with_reducible refine Below.drew ?_) | (with_reducible refine below_via (by with_reducible assumption) ?_ ?_) | (first | (with_reducible assumption) | omega | (simp only [World.size_alloc, World.size_setCell, World.size_drew, World.heap_drewN] <;> omega) | (simp <;> omega))))⟩

set_option maxRecDepth 100000 in
set_option maxHeartbeats 2000000 in
theorem MT_in (l : Int) (ma ica : Option Addr) (mc icc lm li : Nat) (aseg : Int) (awa aka ava aca : Option Addr) (awc akc avc acc alw alk alv alc : Nat) (alaid : Int) (bseg : Int) (bwa bka bva bca : Option Addr) (bwc bkc bvc bcc blw blk blv blc : Nat) (blaid : Int) (w : World) (L : Int) (bm bc : List Int) (G1 : Hid (∀ W, Calls Try.prog 9 #[.agg #[.int .i64 l, .slice ma lm mc, .slice ica li icc]] W (AnsB W (.bool false)))) (G2 : Hid (∀ W, Calls Try.prog 10 #[.agg #[.int .i64 aseg, .slice awa alw awc, .slice aka alk akc, .slice ava alv avc, .slice aca alc acc, .int .u64 alaid], .int .i64 600] W (AnsB W (.bool false)))) (G3 : Hid (∀ W, Calls Try.prog 10 #[.agg #[.int .i64 bseg, .slice bwa blw bwc, .slice bka blk bkc, .slice bva blv bvc, .slice bca blc bcc, .int .u64 blaid], .int .i64 600] W (AnsB W (.bool false))))
    (FT : Hid (∀ W, Below w.heap.size w W → Calls Try.prog 20 #[.agg #[.int .i64 l, .slice ma lm mc, .slice ica li icc], .agg #[.int .i64 aseg, .slice awa alw awc, .slice aka alk akc, .slice ava alv avc, .slice aca alc acc, .int .u64 alaid], .agg #[.int .i64 bseg, .slice bwa blw bwc, .slice bka blk bkc, .slice bva blv bvc, .slice bca blc bcc, .int .u64 blaid]] W (FreshIx2 W L bm bc (.int .i64 0))))
    (BI : Hid (∀ W, Below w.heap.size w W → Calls Try.prog 23 #[.agg #[.int .i64 bseg, .slice bwa blw bwc, .slice bka blk bkc, .slice bva blv bvc, .slice bca blc bcc, .int .u64 blaid]] W (FreshIx2 W L bm bc (.int .i64 0))))
    (OI : Hid (∀ xa xb xc xd W, Below w.heap.size w W → IsRow .i64 W xa bm → IsRow .i64 W xb bc → Calls Try.prog 32 #[ixV L xa bm.length xc xb bc.length xd, .agg #[.int .i64 bseg, .slice bwa blw bwc, .slice bka blk bkc, .slice bva blv bvc, .slice bca blc bcc, .int .u64 blaid]] W (AnsB W (.tuple #[.bool true, .int .i64 0]))))
    (SM : Hid (∀ xa xb ya yb xc xd yc yd W, IsRow .i64 W xa bm → IsRow .i64 W xb bc → IsRow .i64 W ya bm → IsRow .i64 W yb bc → Calls Try.prog 24 #[ixV L xa bm.length xc xb bc.length xd, ixV L ya bm.length yc yb bc.length yd] W (AnsB W (.bool true)))) :
    Calls Try.prog 8 #[.agg #[.int .i64 l, .slice ma lm mc, .slice ica li icc], .agg #[.int .i64 aseg, .slice awa alw awc, .slice aka alk akc, .slice ava alv avc, .slice aca alc acc, .int .u64 alaid], .agg #[.int .i64 bseg, .slice bwa blw bwc, .slice bka blk bkc, .slice bva blv bvc, .slice bca blc bcc, .int .u64 blaid]] w (AnsB w (.bool true)) := by
  have AL := Lib.hid alive20_ok
  go_enter Try.func8, Try.ntmps8
  go_wp2_with fail
  refine (AL.out _).mono ?_
  rintro e w1 ⟨rfl, hb1⟩
  have hz_w1 := hb1.size
  try simp only [World.size_alloc, World.size_setCell] at hz_w1
  have all_c : w1.cell? ⟨w.heap.size, 0, none⟩ = some (.int .i64 l) ∧ w1.cell? ⟨w.heap.size, 1, none⟩ = some (.slice ma lm mc) ∧ w1.cell? ⟨w.heap.size, 2, none⟩ = some (.slice ica li icc) ∧ w1.cell? ⟨w.heap.size + 1, 0, none⟩ = some (.int .i64 aseg) ∧ w1.cell? ⟨w.heap.size + 1, 1, none⟩ = some (.slice awa alw awc) ∧ w1.cell? ⟨w.heap.size + 1, 2, none⟩ = some (.slice aka alk akc) ∧ w1.cell? ⟨w.heap.size + 1, 3, none⟩ = some (.slice ava alv avc) ∧ w1.cell? ⟨w.heap.size + 1, 4, none⟩ = some (.slice aca alc acc) ∧ w1.cell? ⟨w.heap.size + 1, 5, none⟩ = some (.int .u64 alaid) ∧ w1.cell? ⟨w.heap.size + 1 + 1, 0, none⟩ = some (.int .i64 bseg) ∧ w1.cell? ⟨w.heap.size + 1 + 1, 1, none⟩ = some (.slice bwa blw bwc) ∧ w1.cell? ⟨w.heap.size + 1 + 1, 2, none⟩ = some (.slice bka blk bkc) ∧ w1.cell? ⟨w.heap.size + 1 + 1, 3, none⟩ = some (.slice bva blv bvc) ∧ w1.cell? ⟨w.heap.size + 1 + 1, 4, none⟩ = some (.slice bca blc bcc) ∧ w1.cell? ⟨w.heap.size + 1 + 1, 5, none⟩ = some (.int .u64 blaid) := by refine ⟨?_, ?_, ?_, ?_, ?_, ?_, ?_, ?_, ?_, ?_, ?_, ?_, ?_, ?_, ?_⟩ <;> (refine (hb1.cell ?_).trans ?_ <;> first | (first | (with_reducible assumption) | omega | (simp only [World.size_alloc, World.size_setCell, World.size_drew, World.heap_drewN] <;> omega) | (simp <;> omega)) | (first | (with_reducible assumption) | ((try simp (disch := first | omega | (simp only [World.size_alloc, World.size_setCell, World.size_drew, World.heap_drewN] <;> omega) | fail) only [World.cell?_alloc_past, World.cell?_alloc_at, World.frozen?_alloc_past, World.frozen?_alloc_at, World.frozen?_setCell, World.cell?_drew, World.frozen?_drew]) <;> first | (with_reducible assumption) | rfl)))
  have all_z : w.heap.size < w1.heap.size ∧ w.heap.size + 1 < w1.heap.size ∧ w.heap.size + 1 + 1 < w1.heap.size := by refine ⟨?_, ?_, ?_⟩ <;> (omega)
  obtain ⟨c_x0, c_x1, c_x2, c_a0, c_a1, c_a2, c_a3, c_a4, c_a5, c_b0, c_b1, c_b2, c_b3, c_b4, c_b5⟩ := all_c
  try clear all_c
  obtain ⟨z_x, z_a, z_b⟩ := all_z
  try clear all_z
  have hB1 : Below w.heap.size w w1 := by (repeat (first | (with_reducible exact Below.refl _ _) | (with_reducible assumption) | (with_reducible exact Hid.out (by with_reducible assumption)) | (with_reducible refine Below.alloc ?_ ?_ _) | (with_reducible refine Below.setCell ?_ ?_ _) | (with_reducible refine below_drewN ?_ _) | (with_reducible refine Below.drew ?_) | (with_reducible refine below_via (by with_reducible assumption) ?_ ?_) | (first | (with_reducible assumption) | omega | (simp only [World.size_alloc, World.size_setCell, World.size_drew, World.heap_drewN] <;> omega) | (simp <;> omega))))
  go_wp2_with fail
  refine (G1.out _).mono ?_
  rintro e v1 ⟨rfl, hv1⟩
  have hz_v1 := hv1.size
  try simp only [World.size_alloc, World.size_setCell] at hz_v1
  have all_c : v1.cell? ⟨w.heap.size, 0, none⟩ = some (.int .i64 l) ∧ v1.cell? ⟨w.heap.size, 1, none⟩ = some (.slice ma lm mc) ∧ v1.cell? ⟨w.heap.size, 2, none⟩ = some (.slice ica li icc) ∧ v1.cell? ⟨w.heap.size + 1, 0, none⟩ = some (.int .i64 aseg) ∧ v1.cell? ⟨w.heap.size + 1, 1, none⟩ = some (.slice awa alw awc) ∧ v1.cell? ⟨w.heap.size + 1, 2, none⟩ = some (.slice aka alk akc) ∧ v1.cell? ⟨w.heap.size + 1, 3, none⟩ = some (.slice ava alv avc) ∧ v1.cell? ⟨w.heap.size + 1, 4, none⟩ = some (.slice aca alc acc) ∧ v1.cell? ⟨w.heap.size + 1, 5, none⟩ = some (.int .u64 alaid) ∧ v1.cell? ⟨w.heap.size + 1 + 1, 0, none⟩ = some (.int .i64 bseg) ∧ v1.cell? ⟨w.heap.size + 1 + 1, 1, none⟩ = some (.slice bwa blw bwc) ∧ v1.cell? ⟨w.heap.size + 1 + 1, 2, none⟩ = some (.slice bka blk bkc) ∧ v1.cell? ⟨w.heap.size + 1 + 1, 3, none⟩ = some (.slice bva blv bvc) ∧ v1.cell? ⟨w.heap.size + 1 + 1, 4, none⟩ = some (.slice bca blc bcc) ∧ v1.cell? ⟨w.heap.size + 1 + 1, 5, none⟩ = some (.int .u64 blaid) := by refine ⟨?_, ?_, ?_, ?_, ?_, ?_, ?_, ?_, ?_, ?_, ?_, ?_, ?_, ?_, ?_⟩ <;> (refine (hv1.cell ?_).trans ?_ <;> first | (first | (with_reducible assumption) | omega | (simp only [World.size_alloc, World.size_setCell, World.size_drew, World.heap_drewN] <;> omega) | (simp <;> omega)) | (first | (with_reducible assumption) | ((try simp (disch := first | omega | (simp only [World.size_alloc, World.size_setCell, World.size_drew, World.heap_drewN] <;> omega) | fail) only [World.cell?_alloc_past, World.cell?_alloc_at, World.frozen?_alloc_past, World.frozen?_alloc_at, World.frozen?_setCell, World.cell?_drew, World.frozen?_drew]) <;> first | (with_reducible assumption) | rfl)))
  have all_z : w.heap.size < v1.heap.size ∧ w.heap.size + 1 < v1.heap.size ∧ w.heap.size + 1 + 1 < v1.heap.size := by refine ⟨?_, ?_, ?_⟩ <;> (omega)
  clear c_x0 c_x1 c_x2 c_a0 c_a1 c_a2 c_a3 c_a4 c_a5 c_b0 c_b1 c_b2 c_b3 c_b4 c_b5 z_x z_a z_b
  obtain ⟨c_x0, c_x1, c_x2, c_a0, c_a1, c_a2, c_a3, c_a4, c_a5, c_b0, c_b1, c_b2, c_b3, c_b4, c_b5⟩ := all_c
  try clear all_c
  obtain ⟨z_x, z_a, z_b⟩ := all_z
  try clear all_z
  have hV1 : Below w.heap.size w v1 := by (repeat (first | (with_reducible exact Below.refl _ _) | (with_reducible assumption) | (with_reducible exact Hid.out (by with_reducible assumption)) | (with_reducible refine Below.alloc ?_ ?_ _) | (with_reducible refine Below.setCell ?_ ?_ _) | (with_reducible refine below_drewN ?_ _) | (with_reducible refine Below.drew ?_) | (with_reducible refine below_via (by with_reducible assumption) ?_ ?_) | (first | (with_reducible assumption) | omega | (simp only [World.size_alloc, World.size_setCell, World.size_drew, World.heap_drewN] <;> omega) | (simp <;> omega))))
  go_wp2_with fail
  refine (G2.out _).mono ?_
  rintro e v2 ⟨rfl, hv2⟩
  have hz_v2 := hv2.size
  try simp only [World.size_alloc, World.size_setCell] at hz_v2
  have all_c : v2.cell? ⟨w.heap.size, 0, none⟩ = some (.int .i64 l) ∧ v2.cell? ⟨w.heap.size, 1, none⟩ = some (.slice ma lm mc) ∧ v2.cell? ⟨w.heap.size, 2, none⟩ = some (.slice ica li icc) ∧ v2.cell? ⟨w.heap.size + 1, 0, none⟩ = some (.int .i64 aseg) ∧ v2.cell? ⟨w.heap.size + 1, 1, none⟩ = some (.slice awa alw awc) ∧ v2.cell? ⟨w.heap.size + 1, 2, none⟩ = some (.slice aka alk akc) ∧ v2.cell? ⟨w.heap.size + 1, 3, none⟩ = some (.slice ava alv avc) ∧ v2.cell? ⟨w.heap.size + 1, 4, none⟩ = some (.slice aca alc acc) ∧ v2.cell? ⟨w.heap.size + 1, 5, none⟩ = some (.int .u64 alaid) ∧ v2.cell? ⟨w.heap.size + 1 + 1, 0, none⟩ = some (.int .i64 bseg) ∧ v2.cell? ⟨w.heap.size + 1 + 1, 1, none⟩ = some (.slice bwa blw bwc) ∧ v2.cell? ⟨w.heap.size + 1 + 1, 2, none⟩ = some (.slice bka blk bkc) ∧ v2.cell? ⟨w.heap.size + 1 + 1, 3, none⟩ = some (.slice bva blv bvc) ∧ v2.cell? ⟨w.heap.size + 1 + 1, 4, none⟩ = some (.slice bca blc bcc) ∧ v2.cell? ⟨w.heap.size + 1 + 1, 5, none⟩ = some (.int .u64 blaid) := by refine ⟨?_, ?_, ?_, ?_, ?_, ?_, ?_, ?_, ?_, ?_, ?_, ?_, ?_, ?_, ?_⟩ <;> (refine (hv2.cell ?_).trans ?_ <;> first | (first | (with_reducible assumption) | omega | (simp only [World.size_alloc, World.size_setCell, World.size_drew, World.heap_drewN] <;> omega) | (simp <;> omega)) | (first | (with_reducible assumption) | ((try simp (disch := first | omega | (simp only [World.size_alloc, World.size_setCell, World.size_drew, World.heap_drewN] <;> omega) | fail) only [World.cell?_alloc_past, World.cell?_alloc_at, World.frozen?_alloc_past, World.frozen?_alloc_at, World.frozen?_setCell, World.cell?_drew, World.frozen?_drew]) <;> first | (with_reducible assumption) | rfl)))
  have all_z : w.heap.size < v2.heap.size ∧ w.heap.size + 1 < v2.heap.size ∧ w.heap.size + 1 + 1 < v2.heap.size := by refine ⟨?_, ?_, ?_⟩ <;> (omega)
  clear c_x0 c_x1 c_x2 c_a0 c_a1 c_a2 c_a3 c_a4 c_a5 c_b0 c_b1 c_b2 c_b3 c_b4 c_b5 z_x z_a z_b
  obtain ⟨c_x0, c_x1, c_x2, c_a0, c_a1, c_a2, c_a3, c_a4, c_a5, c_b0, c_b1, c_b2, c_b3, c_b4, c_b5⟩ := all_c
  try clear all_c
  obtain ⟨z_x, z_a, z_b⟩ := all_z
  try clear all_z
  have hV2 : Below w.heap.size w v2 := by (repeat (first | (with_reducible exact Below.refl _ _) | (with_reducible assumption) | (with_reducible exact Hid.out (by with_reducible assumption)) | (with_reducible refine Below.alloc ?_ ?_ _) | (with_reducible refine Below.setCell ?_ ?_ _) | (with_reducible refine below_drewN ?_ _) | (with_reducible refine Below.drew ?_) | (with_reducible refine below_via (by with_reducible assumption) ?_ ?_) | (first | (with_reducible assumption) | omega | (simp only [World.size_alloc, World.size_setCell, World.size_drew, World.heap_drewN] <;> omega) | (simp <;> omega))))
  go_wp2_with fail
  refine (G3.out _).mono ?_
  rintro e v3 ⟨rfl, hv3⟩
  have hz_v3 := hv3.size
  try simp only [World.size_alloc, World.size_setCell] at hz_v3
  have all_c : v3.cell? ⟨w.heap.size, 0, none⟩ = some (.int .i64 l) ∧ v3.cell? ⟨w.heap.size, 1, none⟩ = some (.slice ma lm mc) ∧ v3.cell? ⟨w.heap.size, 2, none⟩ = some (.slice ica li icc) ∧ v3.cell? ⟨w.heap.size + 1, 0, none⟩ = some (.int .i64 aseg) ∧ v3.cell? ⟨w.heap.size + 1, 1, none⟩ = some (.slice awa alw awc) ∧ v3.cell? ⟨w.heap.size + 1, 2, none⟩ = some (.slice aka alk akc) ∧ v3.cell? ⟨w.heap.size + 1, 3, none⟩ = some (.slice ava alv avc) ∧ v3.cell? ⟨w.heap.size + 1, 4, none⟩ = some (.slice aca alc acc) ∧ v3.cell? ⟨w.heap.size + 1, 5, none⟩ = some (.int .u64 alaid) ∧ v3.cell? ⟨w.heap.size + 1 + 1, 0, none⟩ = some (.int .i64 bseg) ∧ v3.cell? ⟨w.heap.size + 1 + 1, 1, none⟩ = some (.slice bwa blw bwc) ∧ v3.cell? ⟨w.heap.size + 1 + 1, 2, none⟩ = some (.slice bka blk bkc) ∧ v3.cell? ⟨w.heap.size + 1 + 1, 3, none⟩ = some (.slice bva blv bvc) ∧ v3.cell? ⟨w.heap.size + 1 + 1, 4, none⟩ = some (.slice bca blc bcc) ∧ v3.cell? ⟨w.heap.size + 1 + 1, 5, none⟩ = some (.int .u64 blaid) := by refine ⟨?_, ?_, ?_, ?_, ?_, ?_, ?_, ?_, ?_, ?_, ?_, ?_, ?_, ?_, ?_⟩ <;> (refine (hv3.cell ?_).trans ?_ <;> first | (first | (with_reducible assumption) | omega | (simp only [World.size_alloc, World.size_setCell, World.size_drew, World.heap_drewN] <;> omega) | (simp <;> omega)) | (first | (with_reducible assumption) | ((try simp (disch := first | omega | (simp only [World.size_alloc, World.size_setCell, World.size_drew, World.heap_drewN] <;> omega) | fail) only [World.cell?_alloc_past, World.cell?_alloc_at, World.frozen?_alloc_past, World.frozen?_alloc_at, World.frozen?_setCell, World.cell?_drew, World.frozen?_drew]) <;> first | (with_reducible assumption) | rfl)))
  have all_z : w.heap.size < v3.heap.size ∧ w.heap.size + 1 < v3.heap.size ∧ w.heap.size + 1 + 1 < v3.heap.size := by refine ⟨?_, ?_, ?_⟩ <;> (omega)
  clear c_x0 c_x1 c_x2 c_a0 c_a1 c_a2 c_a3 c_a4 c_a5 c_b0 c_b1 c_b2 c_b3 c_b4 c_b5 z_x z_a z_b
  obtain ⟨c_x0, c_x1, c_x2, c_a0, c_a1, c_a2, c_a3, c_a4, c_a5, c_b0, c_b1, c_b2, c_b3, c_b4, c_b5⟩ := all_c
  try clear all_c
  obtain ⟨z_x, z_a, z_b⟩ := all_z
  try clear all_z
  have hV3 : Below w.heap.size w v3 := by (repeat (first | (with_reducible exact Below.refl _ _) | (with_reducible assumption) | (with_reducible exact Hid.out (by with_reducible assumption)) | (with_reducible refine Below.alloc ?_ ?_ _) | (with_reducible refine Below.setCell ?_ ?_ _) | (with_reducible refine below_drewN ?_ _) | (with_reducible refine Below.drew ?_) | (with_reducible refine below_via (by with_reducible assumption) ?_ ?_) | (first | (with_reducible assumption) | omega | (simp only [World.size_alloc, World.size_setCell, World.size_drew, World.heap_drewN] <;> omega) | (simp <;> omega))))
  go_wp2_with fail
  refine (FT.out _ hV3).mono ?_
  rintro e w3 ⟨v, u, rfl, o1, o2, hb3⟩
  have hz_w3 := hb3.size
  try simp only [World.size_alloc, World.size_setCell] at hz_w3
  have all_c : w3.cell? ⟨w.heap.size, 0, none⟩ = some (.int .i64 l) ∧ w3.cell? ⟨w.heap.size, 1, none⟩ = some (.slice ma lm mc) ∧ w3.cell? ⟨w.heap.size, 2, none⟩ = some (.slice ica li icc) ∧ w3.cell? ⟨w.heap.size + 1, 0, none⟩ = some (.int .i64 aseg) ∧ w3.cell? ⟨w.heap.size + 1, 1, none⟩ = some (.slice awa alw awc) ∧ w3.cell? ⟨w.heap.size + 1, 2, none⟩ = some (.slice aka alk akc) ∧ w3.cell? ⟨w.heap.size + 1, 3, none⟩ = some (.slice ava alv avc) ∧ w3.cell? ⟨w.heap.size + 1, 4, none⟩ = some (.slice aca alc acc) ∧ w3.cell? ⟨w.heap.size + 1, 5, none⟩ = some (.int .u64 alaid) ∧ w3.cell? ⟨w.heap.size + 1 + 1, 0, none⟩ = some (.int .i64 bseg) ∧ w3.cell? ⟨w.heap.size + 1 + 1, 1, none⟩ = some (.slice bwa blw bwc) ∧ w3.cell? ⟨w.heap.size + 1 + 1, 2, none⟩ = some (.slice bka blk bkc) ∧ w3.cell? ⟨w.heap.size + 1 + 1, 3, none⟩ = some (.slice bva blv bvc) ∧ w3.cell? ⟨w.heap.size + 1 + 1, 4, none⟩ = some (.slice bca blc bcc) ∧ w3.cell? ⟨w.heap.size + 1 + 1, 5, none⟩ = some (.int .u64 blaid) := by refine ⟨?_, ?_, ?_, ?_, ?_, ?_, ?_, ?_, ?_, ?_, ?_, ?_, ?_, ?_, ?_⟩ <;> (refine (hb3.cell ?_).trans ?_ <;> first | (first | (with_reducible assumption) | omega | (simp only [World.size_alloc, World.size_setCell, World.size_drew, World.heap_drewN] <;> omega) | (simp <;> omega)) | (first | (with_reducible assumption) | ((try simp (disch := first | omega | (simp only [World.size_alloc, World.size_setCell, World.size_drew, World.heap_drewN] <;> omega) | fail) only [World.cell?_alloc_past, World.cell?_alloc_at, World.frozen?_alloc_past, World.frozen?_alloc_at, World.frozen?_setCell, World.cell?_drew, World.frozen?_drew]) <;> first | (with_reducible assumption) | rfl)))
  have all_z : w.heap.size < w3.heap.size ∧ w.heap.size + 1 < w3.heap.size ∧ w.heap.size + 1 + 1 < w3.heap.size := by refine ⟨?_, ?_, ?_⟩ <;> (omega)
  clear c_x0 c_x1 c_x2 c_a0 c_a1 c_a2 c_a3 c_a4 c_a5 c_b0 c_b1 c_b2 c_b3 c_b4 c_b5 z_x z_a z_b
  obtain ⟨c_x0, c_x1, c_x2, c_a0, c_a1, c_a2, c_a3, c_a4, c_a5, c_b0, c_b1, c_b2, c_b3, c_b4, c_b5⟩ := all_c
  try clear all_c
  obtain ⟨z_x, z_a, z_b⟩ := all_z
  try clear all_z
  have hB3 : Below w.heap.size w w3 := by (repeat (first | (with_reducible exact Below.refl _ _) | (with_reducible assumption) | (with_reducible exact Hid.out (by with_reducible assumption)) | (with_reducible refine Below.alloc ?_ ?_ _) | (with_reducible refine Below.setCell ?_ ?_ _) | (with_reducible refine below_drewN ?_ _) | (with_reducible refine Below.drew ?_) | (with_reducible refine below_via (by with_reducible assumption) ?_ ?_) | (first | (with_reducible assumption) | omega | (simp only [World.size_alloc, World.size_setCell, World.size_drew, World.heap_drewN] <;> omega) | (simp <;> omega))))
  obtain ⟨ma', mc', rfl, i1, -, -, -, -⟩ := row_of_owns o1
  obtain ⟨ca', cc', rfl, i2, -, -, -, -⟩ := row_of_owns o2
  have I1 := Lib.hid (fun W (hb : Below w3.heap.size w3 W) => i1.below hb)
  have I2 := Lib.hid (fun W (hb : Below w3.heap.size w3 W) => i2.below hb)
  clear o1 o2 i1 i2 hb3
  have hy : Below w3.heap.size w3 (w3.alloc (.cells #[.int .i64 L, .slice ma' bm.length mc', .slice ca' bc.length cc'] 25)) := (Below.refl _ _).alloc (Nat.le_refl _) _
  go_wp2_with fail
  refine (BI.out _ (by (repeat (first | (with_reducible exact Below.refl _ _) | (with_reducible assumption) | (with_reducible exact Hid.out (by with_reducible assumption)) | (with_reducible refine Below.alloc ?_ ?_ _) | (with_reducible refine Below.setCell ?_ ?_ _) | (with_reducible refine below_drewN ?_ _) | (with_reducible refine Below.drew ?_) | (with_reducible refine below_via (by with_reducible assumption) ?_ ?_) | (first | (with_reducible assumption) | omega | (simp only [World.size_alloc, World.size_setCell, World.size_drew, World.heap_drewN] <;> omega) | (simp <;> omega)))))).mono ?_
  rintro e w4 ⟨v, u, rfl, o1, o2, hb4⟩
  have hz_w4 := hb4.size
  try simp only [World.size_alloc, World.size_setCell] at hz_w4
  have all_c : w4.cell? ⟨w.heap.size, 0, none⟩ = some (.int .i64 l) ∧ w4.cell? ⟨w.heap.size, 1, none⟩ = some (.slice ma lm mc) ∧ w4.cell? ⟨w.heap.size, 2, none⟩ = some (.slice ica li icc) ∧ w4.cell? ⟨w.heap.size + 1, 0, none⟩ = some (.int .i64 aseg) ∧ w4.cell? ⟨w.heap.size + 1, 1, none⟩ = some (.slice awa alw awc) ∧ w4.cell? ⟨w.heap.size + 1, 2, none⟩ = some (.slice aka alk akc) ∧ w4.cell? ⟨w.heap.size + 1, 3, none⟩ = some (.slice ava alv avc) ∧ w4.cell? ⟨w.heap.size + 1, 4, none⟩ = some (.slice aca alc acc) ∧ w4.cell? ⟨w.heap.size + 1, 5, none⟩ = some (.int .u64 alaid) ∧ w4.cell? ⟨w.heap.size + 1 + 1, 0, none⟩ = some (.int .i64 bseg) ∧ w4.cell? ⟨w.heap.size + 1 + 1, 1, none⟩ = some (.slice bwa blw bwc) ∧ w4.cell? ⟨w.heap.size + 1 + 1, 2, none⟩ = some (.slice bka blk bkc) ∧ w4.cell? ⟨w.heap.size + 1 + 1, 3, none⟩ = some (.slice bva blv bvc) ∧ w4.cell? ⟨w.heap.size + 1 + 1, 4, none⟩ = some (.slice bca blc bcc) ∧ w4.cell? ⟨w.heap.size + 1 + 1, 5, none⟩ = some (.int .u64 blaid) ∧ w4.cell? ⟨w3.heap.size, 0, none⟩ = some (.int .i64 L) ∧ w4.cell? ⟨w3.heap.size, 1, none⟩ = some (.slice ma' bm.length mc') ∧ w4.cell? ⟨w3.heap.size, 2, none⟩ = some (.slice ca' bc.length cc') := by refine ⟨?_, ?_, ?_, ?_, ?_, ?_, ?_, ?_, ?_, ?_, ?_, ?_, ?_, ?_, ?_, ?_, ?_, ?_⟩ <;> (refine (hb4.cell ?_).trans ?_ <;> first | (first | (with_reducible assumption) | omega | (simp only [World.size_alloc, World.size_setCell, World.size_drew, World.heap_drewN] <;> omega) | (simp <;> omega)) | (first | (with_reducible assumption) | ((try simp (disch := first | omega | (simp only [World.size_alloc, World.size_setCell, World.size_drew, World.heap_drewN] <;> omega) | fail) only [World.cell?_alloc_past, World.cell?_alloc_at, World.frozen?_alloc_past, World.frozen?_alloc_at, World.frozen?_setCell, World.cell?_drew, World.frozen?_drew]) <;> first | (with_reducible assumption) | rfl)))
  have all_z : w.heap.size < w4.heap.size ∧ w.heap.size + 1 < w4.heap.size ∧ w.heap.size + 1 + 1 < w4.heap.size ∧ w3.heap.size < w4.heap.size := by refine ⟨?_, ?_, ?_, ?_⟩ <;> (omega)
  clear c_x0 c_x1 c_x2 c_a0 c_a1 c_a2 c_a3 c_a4 c_a5 c_b0 c_b1 c_b2 c_b3 c_b4 c_b5 z_x z_a z_b
  obtain ⟨c_x0, c_x1, c_x2, c_a0, c_a1, c_a2, c_a3, c_a4, c_a5, c_b0, c_b1, c_b2, c_b3, c_b4, c_b5, c_y0, c_y1, c_y2⟩ := all_c
  try clear all_c
  obtain ⟨z_x, z_a, z_b, z_y⟩ := all_z
  try clear all_z
  have h4 : Below w3.heap.size w3 w4 := below_via hb4 hy (by simp)
  obtain ⟨ma4, mc4, rfl, i1, -, -, -, -⟩ := row_of_owns o1
  obtain ⟨ca4, cc4, rfl, i2, -, -, -, -⟩ := row_of_owns o2
  have J1 := Lib.hid (fun W (hb : Below w4.heap.size w4 W) => i1.below hb)
  have J2 := Lib.hid (fun W (hb : Below w4.heap.size w4 W) => i2.below hb)
  clear o1 o2 i1 i2 hb4 hy
  have hz : Below w4.heap.size w4 (w4.alloc (.cells #[.int .i64 L, .slice ma4 bm.length mc4, .slice ca4 bc.length cc4] 25)) := (Below.refl _ _).alloc (Nat.le_refl _) _
  have hz3 : Below w3.heap.size w3 (w4.alloc (.cells #[.int .i64 L, .slice ma4 bm.length mc4, .slice ca4 bc.length cc4] 25)) := h4.alloc (by omega) _
  go_wp2_with fail
  refine (OI.out ma' ca' mc' cc' _ (by (repeat (first | (with_reducible exact Below.refl _ _) | (with_reducible assumption) | (with_reducible exact Hid.out (by with_reducible assumption)) | (with_reducible refine Below.alloc ?_ ?_ _) | (with_reducible refine Below.setCell ?_ ?_ _) | (with_reducible refine below_drewN ?_ _) | (with_reducible refine Below.drew ?_) | (with_reducible refine below_via (by with_reducible assumption) ?_ ?_) | (first | (with_reducible assumption) | omega | (simp only [World.size_alloc, World.size_setCell, World.size_drew, World.heap_drewN] <;> omega) | (simp <;> omega))))) (I1.out _ hz3) (I2.out _ hz3)).mono ?_
  rintro e w5 ⟨rfl, hb5⟩
  have hz_w5 := hb5.size
  try simp only [World.size_alloc, World.size_setCell] at hz_w5
  have all_c : w5.cell? ⟨w.heap.size, 0, none⟩ = some (.int .i64 l) ∧ w5.cell? ⟨w.heap.size, 1, none⟩ = some (.slice ma lm mc) ∧ w5.cell? ⟨w.heap.size, 2, none⟩ = some (.slice ica li icc) ∧ w5.cell? ⟨w.heap.size + 1, 0, none⟩ = some (.int .i64 aseg) ∧ w5.cell? ⟨w.heap.size + 1, 1, none⟩ = some (.slice awa alw awc) ∧ w5.cell? ⟨w.heap.size + 1, 2, none⟩ = some (.slice aka alk akc) ∧ w5.cell? ⟨w.heap.size + 1, 3, none⟩ = some (.slice ava alv avc) ∧ w5.cell? ⟨w.heap.size + 1, 4, none⟩ = some (.slice aca alc acc) ∧ w5.cell? ⟨w.heap.size + 1, 5, none⟩ = some (.int .u64 alaid) ∧ w5.cell? ⟨w.heap.size + 1 + 1, 0, none⟩ = some (.int .i64 bseg) ∧ w5.cell? ⟨w.heap.size + 1 + 1, 1, none⟩ = some (.slice bwa blw bwc) ∧ w5.cell? ⟨w.heap.size + 1 + 1, 2, none⟩ = some (.slice bka blk bkc) ∧ w5.cell? ⟨w.heap.size + 1 + 1, 3, none⟩ = some (.slice bva blv bvc) ∧ w5.cell? ⟨w.heap.size + 1 + 1, 4, none⟩ = some (.slice bca blc bcc) ∧ w5.cell? ⟨w.heap.size + 1 + 1, 5, none⟩ = some (.int .u64 blaid) ∧ w5.cell? ⟨w3.heap.size, 0, none⟩ = some (.int .i64 L) ∧ w5.cell? ⟨w3.heap.size, 1, none⟩ = some (.slice ma' bm.length mc') ∧ w5.cell? ⟨w3.heap.size, 2, none⟩ = some (.slice ca' bc.length cc') ∧ w5.cell? ⟨w4.heap.size, 0, none⟩ = some (.int .i64 L) ∧ w5.cell? ⟨w4.heap.size, 1, none⟩ = some (.slice ma4 bm.length mc4) ∧ w5.cell? ⟨w4.heap.size, 2, none⟩ = some (.slice ca4 bc.length cc4) := by refine ⟨?_, ?_, ?_, ?_, ?_, ?_, ?_, ?_, ?_, ?_, ?_, ?_, ?_, ?_, ?_, ?_, ?_, ?_, ?_, ?_, ?_⟩ <;> (refine (hb5.cell ?_).trans ?_ <;> first | (first | (with_reducible assumption) | omega | (simp only [World.size_alloc, World.size_setCell, World.size_drew, World.heap_drewN] <;> omega) | (simp <;> omega)) | (first | (with_reducible assumption) | ((try simp (disch := first | omega | (simp only [World.size_alloc, World.size_setCell, World.size_drew, World.heap_drewN] <;> omega) | fail) only [World.cell?_alloc_past, World.cell?_alloc_at, World.frozen?_alloc_past, World.frozen?_alloc_at, World.frozen?_setCell, World.cell?_drew, World.frozen?_drew]) <;> first | (with_reducible assumption) | rfl)))
  have all_z : w.heap.size < w5.heap.size ∧ w.heap.size + 1 < w5.heap.size ∧ w.heap.size + 1 + 1 < w5.heap.size ∧ w3.heap.size < w5.heap.size ∧ w4.heap.size < w5.heap.size := by refine ⟨?_, ?_, ?_, ?_, ?_⟩ <;> (omega)
  clear c_x0 c_x1 c_x2 c_a0 c_a1 c_a2 c_a3 c_a4 c_a5 c_b0 c_b1 c_b2 c_b3 c_b4 c_b5 c_y0 c_y1 c_y2 z_x z_a z_b z_y
  obtain ⟨c_x0, c_x1, c_x2, c_a0, c_a1, c_a2, c_a3, c_a4, c_a5, c_b0, c_b1, c_b2, c_b3, c_b4, c_b5, c_y0, c_y1, c_y2, c_z0, c_z1, c_z2⟩ := all_c
  try clear all_c
  obtain ⟨z_x, z_a, z_b, z_y, z_z⟩ := all_z
  try clear all_z
  have h5 : Below w3.heap.size w3 w5 := below_via hb5 hz3 (by simp <;> omega)
  have k5 : Below w4.heap.size w4 w5 := below_via hb5 hz (by simp)
  clear hb5 hz hz3
  go_wp2_with fail
  refine (SM.out ma' ca' ma4 ca4 mc' cc' mc4 cc4 _ (I1.out _ h5) (I2.out _ h5) (J1.out _ k5) (J2.out _ k5)).mono ?_
  rintro e w6 ⟨rfl, hb6⟩
  have hz_w6 := hb6.size
  try simp only [World.size_alloc, World.size_setCell] at hz_w6
  have all_c : w6.cell? ⟨w.heap.size, 0, none⟩ = some (.int .i64 l) ∧ w6.cell? ⟨w.heap.size, 1, none⟩ = some (.slice ma lm mc) ∧ w6.cell? ⟨w.heap.size, 2, none⟩ = some (.slice ica li icc) ∧ w6.cell? ⟨w.heap.size + 1, 0, none⟩ = some (.int .i64 aseg) ∧ w6.cell? ⟨w.heap.size + 1, 1, none⟩ = some (.slice awa alw awc) ∧ w6.cell? ⟨w.heap.size + 1, 2, none⟩ = some (.slice aka alk akc) ∧ w6.cell? ⟨w.heap.size + 1, 3, none⟩ = some (.slice ava alv avc) ∧ w6.cell? ⟨w.heap.size + 1, 4, none⟩ = some (.slice aca alc acc) ∧ w6.cell? ⟨w.heap.size + 1, 5, none⟩ = some (.int .u64 alaid) ∧ w6.cell? ⟨w.heap.size + 1 + 1, 0, none⟩ = some (.int .i64 bseg) ∧ w6.cell? ⟨w.heap.size + 1 + 1, 1, none⟩ = some (.slice bwa blw bwc) ∧ w6.cell? ⟨w.heap.size + 1 + 1, 2, none⟩ = some (.slice bka blk bkc) ∧ w6.cell? ⟨w.heap.size + 1 + 1, 3, none⟩ = some (.slice bva blv bvc) ∧ w6.cell? ⟨w.heap.size + 1 + 1, 4, none⟩ = some (.slice bca blc bcc) ∧ w6.cell? ⟨w.heap.size + 1 + 1, 5, none⟩ = some (.int .u64 blaid) ∧ w6.cell? ⟨w3.heap.size, 0, none⟩ = some (.int .i64 L) ∧ w6.cell? ⟨w3.heap.size, 1, none⟩ = some (.slice ma' bm.length mc') ∧ w6.cell? ⟨w3.heap.size, 2, none⟩ = some (.slice ca' bc.length cc') ∧ w6.cell? ⟨w4.heap.size, 0, none⟩ = some (.int .i64 L) ∧ w6.cell? ⟨w4.heap.size, 1, none⟩ = some (.slice ma4 bm.length mc4) ∧ w6.cell? ⟨w4.heap.size, 2, none⟩ = some (.slice ca4 bc.length cc4) := by refine ⟨?_, ?_, ?_, ?_, ?_, ?_, ?_, ?_, ?_, ?_, ?_, ?_, ?_, ?_, ?_, ?_, ?_, ?_, ?_, ?_, ?_⟩ <;> (refine (hb6.cell ?_).trans ?_ <;> first | (first | (with_reducible assumption) | omega | (simp only [World.size_alloc, World.size_setCell, World.size_drew, World.heap_drewN] <;> omega) | (simp <;> omega)) | (first | (with_reducible assumption) | ((try simp (disch := first | omega | (simp only [World.size_alloc, World.size_setCell, World.size_drew, World.heap_drewN] <;> omega) | fail) only [World.cell?_alloc_past, World.cell?_alloc_at, World.frozen?_alloc_past, World.frozen?_alloc_at, World.frozen?_setCell, World.cell?_drew, World.frozen?_drew]) <;> first | (with_reducible assumption) | rfl)))
  have all_z : w.heap.size < w6.heap.size ∧ w.heap.size + 1 < w6.heap.size ∧ w.heap.size + 1 + 1 < w6.heap.size ∧ w3.heap.size < w6.heap.size ∧ w4.heap.size < w6.heap.size := by refine ⟨?_, ?_, ?_, ?_, ?_⟩ <;> (omega)
  clear c_x0 c_x1 c_x2 c_a0 c_a1 c_a2 c_a3 c_a4 c_a5 c_b0 c_b1 c_b2 c_b3 c_b4 c_b5 c_y0 c_y1 c_y2 c_z0 c_z1 c_z2 z_x z_a z_b z_y z_z
  obtain ⟨c_x0, c_x1, c_x2, c_a0, c_a1, c_a2, c_a3, c_a4, c_a5, c_b0, c_b1, c_b2, c_b3, c_b4, c_b5, c_y0, c_y1, c_y2, c_z0, c_z1, c_z2⟩ := all_c
  try clear all_c
  obtain ⟨z_x, z_a, z_b, z_y, z_z⟩ := all_z
  try clear all_z
  go_wp2
  go_ret
  exact ⟨rfl, below_via hb6 (below_via h5 hB3 (by omega)) (by omega)⟩

theorem MendTrue_walk (w : World) (l : Int) (ma ica : Option Addr) (mc icc : Nat) (ms cs : List Int) (hm : IsRow .i64 w ma ms) (hc : IsRow .i64 w ica cs) (hmn : ma = none → mc = 0) (hcn : ica = none → icc = 0) (hlm : ms.length ≤ maxLen) (hlc : cs.length ≤ maxLen)
    (c : SlC) (a : SlA) (hin : SlIn w c a) (q1 : c.ks.length ≤ a.kc) (q2 : c.vs.length ≤ a.vc) (d : SlC) (b : SlA) (hin2 : SlIn w d b) (q3 : d.ks.length ≤ b.kc) (q4 : d.vs.length ≤ b.vc) :
    Calls Try.prog 8 #[ixV l ma ms.length mc ica cs.length icc, slV c a, slV d b] w fun e w' => e = .returned (.bool true) ∧ Below w.heap.size w w' := by
  have G4 : ∀ (c : SlC) (a : SlA), Hid (∀ W, Calls Try.prog 10 #[slV c a, .int .i64 600] W (AnsB W (.bool (gr4 600 c.ks.length c.vs.length c.ws.length c.cs.length)))) := fun c a => Lib.hid (fun W => Great04_ok c.seg a.wa a.ka a.va a.ca a.wc a.kc a.vc a.cc c.ws.length c.ks.length c.vs.length c.cs.length c.laid 600 W)
  have g1 := G4 c a
  have g2 := G4 d b
  by_cases h1 : ms.length ≤ 600 ∧ cs.length ≤ 600
  · have G1 := Lib.hid (fun W => Great18_no l ma ica ms.length mc cs.length icc h1.1 h1.2 W)
    by_cases h2 : c.ws.length ≤ 600 ∧ c.ks.length ≤ 600 ∧ c.vs.length ≤ 600 ∧ c.cs.length ≤ 600
    · rw [show gr4 600 c.ks.length c.vs.length c.ws.length c.cs.length = false by simp [gr4]; omega] at g1
      by_cases h3 : d.ws.length ≤ 600 ∧ d.ks.length ≤ 600 ∧ d.vs.length ≤ 600 ∧ d.cs.length ≤ 600
      · rw [show gr4 600 d.ks.length d.vs.length d.ws.length d.cs.length = false by simp [gr4]; omega] at g2
        have FT := Lib.hid (fun W (hb : Below w.heap.size w W) => Fit_ok l ma ica mc icc ms cs c d a b (by omega) (by omega) (by omega) (by omega) (by omega) (by omega) W (hm.below hb) (hc.below hb) (hin.below hb) (hin2.below hb) q1 q2 q3 q4)
        have BI := Lib.hid (fun W (hb : Below w.heap.size w W) => BuildIx_ok d b (by omega) (by omega) W (hin2.below hb))
        by_cases h0 : bldE d = 0
        · rw [h0] at FT BI
          have hbl := bld_len d
          exact MT_in l ma ica mc icc ms.length cs.length c.seg a.wa a.ka a.va a.ca a.wc a.kc a.vc a.cc c.ws.length c.ks.length c.vs.length c.cs.length c.laid d.seg b.wa b.ka b.va b.ca b.wc b.kc b.vc b.cc d.ws.length d.ks.length d.vs.length d.cs.length d.laid w (bldL d) (bldM d) (bldC d) G1 g1 g2 FT BI
            (Lib.hid fun xa xb xc xd W hb h1 h2 => by
              have := OfIx_ok (bldL d) xa xb xc xd (bldM d) (bldC d) d b (by omega) (by omega) W (hin2.below hb) h1 h2 hbl.1 hbl.2
              rw [show ofB (bldL d) (bldM d) (bldC d) d = true by simp [ofB, h0, ixEq], h0] at this
              exact this)
            (Lib.hid fun xa xb ya yb xc xd yc yd W h1 h2 h3 h4 => by
              have := Same_ix (bldL d) (bldL d) xa xb ya yb xc xd yc yd (bldM d) (bldC d) (bldM d) (bldC d) W h1 h2 h3 h4 hbl.1 hbl.2
              rw [show ixEq (bldL d) (bldM d) (bldC d) (bldL d) (bldM d) (bldC d) = true by simp [ixEq]] at this
              exact this.mono fun e w1 h => ⟨h.1, h.2⟩)
        · exact MT_no l ma ica mc icc ms.length cs.length c.seg a.wa a.ka a.va a.ca a.wc a.kc a.vc a.cc c.ws.length c.ks.length c.vs.length c.cs.length c.laid d.seg b.wa b.ka b.va b.ca b.wc b.kc b.vc b.cc d.ws.length d.ks.length d.vs.length d.cs.length d.laid w (bldL d) (bldE d) (bldM d) (bldC d) h0 (by simp [bldM, h0]) G1 g1 g2 FT BI
      · rw [show gr4 600 d.ks.length d.vs.length d.ws.length d.cs.length = true by simp [gr4]; omega] at g2
        exact MT_great3 l ma ica mc icc ms.length cs.length c.seg a.wa a.ka a.va a.ca a.wc a.kc a.vc a.cc c.ws.length c.ks.length c.vs.length c.cs.length c.laid d.seg b.wa b.ka b.va b.ca b.wc b.kc b.vc b.cc d.ws.length d.ks.length d.vs.length d.cs.length d.laid w G1 g1 g2
    · rw [show gr4 600 c.ks.length c.vs.length c.ws.length c.cs.length = true by simp [gr4]; omega] at g1
      exact MT_great2 l ma ica mc icc ms.length cs.length c.seg a.wa a.ka a.va a.ca a.wc a.kc a.vc a.cc c.ws.length c.ks.length c.vs.length c.cs.length c.laid d.seg b.wa b.ka b.va b.ca b.wc b.kc b.vc b.cc d.ws.length d.ks.length d.vs.length d.cs.length d.laid w G1 g1
  · have G1 := Lib.hid (fun W => Great18_yes l ma ica ms.length mc cs.length icc (by omega) W)
    exact MT_great1 l ma ica mc icc ms.length cs.length c.seg a.wa a.ka a.va a.ca a.wc a.kc a.vc a.cc c.ws.length c.ks.length c.vs.length c.cs.length c.laid d.seg b.wa b.ka b.va b.ca b.wc b.kc b.vc b.cc d.ws.length d.ks.length d.vs.length d.cs.length d.laid w G1
end Go.Proofs.Ytbmibaafkgleeaa
