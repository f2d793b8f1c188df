/-
  MendInside: segments in which two arrays are unlike are between those that are told; the first and the last of these are such.
  No condition.
-/
import Derived.Test.YtbmibaafkgleeaaAlive20
import Derived.Test.YtbmibaafkgleeaaInsPl
import Derived.Test.YtbmibaafkgleeaaSamePr
import Derived.Test.YtbmibaafkgleeaaTuLaw
namespace Go.Proofs.Ytbmibaafkgleeaa
open Go.RowKit
set_option linter.unusedVariables false
set_option linter.unusedSimpArgs false

set_option maxRecDepth 100000 in
theorem MI_great1 (aseg : Int) (awa aka ava aca : Option Addr) (awc akc avc acc alw alk alv alc : Nat) (alaid : Int) (bseg : Int) (bwa bka bva bca : Option Addr) (bwc bkc bvc bcc blw blk blv blc : Nat) (blaid : Int) (at_ : Int) (w : World) (G1 : Hid (∀ W, Calls Try.prog 10 #[.agg #[.int .i64 aseg, .slice awa alw awc, .slice aka alk akc, .slice ava alv avc, .slice aca alc acc, .int .u64 alaid], .int .i64 600] W (AnsB W (.bool true)))) :
    Calls Try.prog 6 #[.agg #[.int .i64 aseg, .slice awa alw awc, .slice aka alk akc, .slice ava alv avc, .slice aca alc acc, .int .u64 alaid], .agg #[.int .i64 bseg, .slice bwa blw bwc, .slice bka blk bkc, .slice bva blv bvc, .slice bca blc bcc, .int .u64 blaid], .int .i64 at_] w (AnsB w (.bool true)) := by
  have AL := Lib.hid alive20_ok
  go_enter Try.func6, Try.ntmps6
  go_wp2_with fail
  refine (AL.out _).mono ?_
  rintro e w1 ⟨rfl, hb1⟩
  have hz_w1 := hb1.size
  try simp only [World.size_alloc, World.size_setCell] at hz_w1
  have all_c : w1.cell? ⟨w.heap.size, 0, none⟩ = some (.int .i64 aseg) ∧ w1.cell? ⟨w.heap.size, 1, none⟩ = some (.slice awa alw awc) ∧ w1.cell? ⟨w.heap.size, 2, none⟩ = some (.slice aka alk akc) ∧ w1.cell? ⟨w.heap.size, 3, none⟩ = some (.slice ava alv avc) ∧ w1.cell? ⟨w.heap.size, 4, none⟩ = some (.slice aca alc acc) ∧ w1.cell? ⟨w.heap.size, 5, none⟩ = some (.int .u64 alaid) ∧ w1.cell? ⟨w.heap.size + 1, 0, none⟩ = some (.int .i64 bseg) ∧ w1.cell? ⟨w.heap.size + 1, 1, none⟩ = some (.slice bwa blw bwc) ∧ w1.cell? ⟨w.heap.size + 1, 2, none⟩ = some (.slice bka blk bkc) ∧ w1.cell? ⟨w.heap.size + 1, 3, none⟩ = some (.slice bva blv bvc) ∧ w1.cell? ⟨w.heap.size + 1, 4, none⟩ = some (.slice bca blc bcc) ∧ w1.cell? ⟨w.heap.size + 1, 5, none⟩ = some (.int .u64 blaid) := by refine ⟨?_, ?_, ?_, ?_, ?_, ?_, ?_, ?_, ?_, ?_, ?_, ?_⟩ <;> (refine (hb1.cell ?_).trans ?_ <;> first | (first | (with_reducible assumption) | omega | (simp only [World.size_alloc, World.size_setCell, World.size_drew, World.heap_drewN] <;> omega) | (simp <;> omega)) | (first | (with_reducible assumption) | ((try simp (disch := first | omega | (simp only [World.size_alloc, World.size_setCell, World.size_drew, World.heap_drewN] <;> omega) | fail) only [World.cell?_alloc_past, World.cell?_alloc_at, World.frozen?_alloc_past, World.frozen?_alloc_at, World.frozen?_setCell, World.cell?_drew, World.frozen?_drew]) <;> first | (with_reducible assumption) | rfl)))
  have all_z : w.heap.size < w1.heap.size ∧ w.heap.size + 1 < w1.heap.size := by refine ⟨?_, ?_⟩ <;> (omega)
  obtain ⟨c_a0, c_a1, c_a2, c_a3, c_a4, c_a5, c_b0, c_b1, c_b2, c_b3, c_b4, c_b5⟩ := all_c
  try clear all_c
  obtain ⟨z_a, z_b⟩ := all_z
  try clear all_z
  have hB1 : Below w.heap.size w w1 := by (repeat (first | (with_reducible exact Below.refl _ _) | (with_reducible assumption) | (with_reducible exact Hid.out (by with_reducible assumption)) | (with_reducible refine Below.alloc ?_ ?_ _) | (with_reducible refine Below.setCell ?_ ?_ _) | (with_reducible refine below_drewN ?_ _) | (with_reducible refine Below.drew ?_) | (with_reducible refine below_via (by with_reducible assumption) ?_ ?_) | (first | (with_reducible assumption) | omega | (simp only [World.size_alloc, World.size_setCell, World.size_drew, World.heap_drewN] <;> omega) | (simp <;> omega))))
  go_wp2_with fail
  refine (G1.out _).mono ?_
  rintro e v1 ⟨rfl, hv1⟩
  have hz_v1 := hv1.size
  try simp only [World.size_alloc, World.size_setCell] at hz_v1
  have hV1 : Below w.heap.size w v1 := by (repeat (first | (with_reducible exact Below.refl _ _) | (with_reducible assumption) | (with_reducible exact Hid.out (by with_reducible assumption)) | (with_reducible refine Below.alloc ?_ ?_ _) | (with_reducible refine Below.setCell ?_ ?_ _) | (with_reducible refine below_drewN ?_ _) | (with_reducible refine Below.drew ?_) | (with_reducible refine below_via (by with_reducible assumption) ?_ ?_) | (first | (with_reducible assumption) | omega | (simp only [World.size_alloc, World.size_setCell, World.size_drew, World.heap_drewN] <;> omega) | (simp <;> omega))))
  go_wp2
  go_ret
  exact ⟨rfl, hV1⟩

set_option maxRecDepth 100000 in
theorem MI_great2 (aseg : Int) (awa aka ava aca : Option Addr) (awc akc avc acc alw alk alv alc : Nat) (alaid : Int) (bseg : Int) (bwa bka bva bca : Option Addr) (bwc bkc bvc bcc blw blk blv blc : Nat) (blaid : Int) (at_ : Int) (w : World) (G1 : Hid (∀ W, Calls Try.prog 10 #[.agg #[.int .i64 aseg, .slice awa alw awc, .slice aka alk akc, .slice ava alv avc, .slice aca alc acc, .int .u64 alaid], .int .i64 600] W (AnsB W (.bool false)))) (G2 : Hid (∀ W, Calls Try.prog 10 #[.agg #[.int .i64 bseg, .slice bwa blw bwc, .slice bka blk bkc, .slice bva blv bvc, .slice bca blc bcc, .int .u64 blaid], .int .i64 600] W (AnsB W (.bool true)))) :
    Calls Try.prog 6 #[.agg #[.int .i64 aseg, .slice awa alw awc, .slice aka alk akc, .slice ava alv avc, .slice aca alc acc, .int .u64 alaid], .agg #[.int .i64 bseg, .slice bwa blw bwc, .slice bka blk bkc, .slice bva blv bvc, .slice bca blc bcc, .int .u64 blaid], .int .i64 at_] w (AnsB w (.bool true)) := by
  have AL := Lib.hid alive20_ok
  go_enter Try.func6, Try.ntmps6
  go_wp2_with fail
  refine (AL.out _).mono ?_
  rintro e w1 ⟨rfl, hb1⟩
  have hz_w1 := hb1.size
  try simp only [World.size_alloc, World.size_setCell] at hz_w1
  have all_c : w1.cell? ⟨w.heap.size, 0, none⟩ = some (.int .i64 aseg) ∧ w1.cell? ⟨w.heap.size, 1, none⟩ = some (.slice awa alw awc) ∧ w1.cell? ⟨w.heap.size, 2, none⟩ = some (.slice aka alk akc) ∧ w1.cell? ⟨w.heap.size, 3, none⟩ = some (.slice ava alv avc) ∧ w1.cell? ⟨w.heap.size, 4, none⟩ = some (.slice aca alc acc) ∧ w1.cell? ⟨w.heap.size, 5, none⟩ = some (.int .u64 alaid) ∧ w1.cell? ⟨w.heap.size + 1, 0, none⟩ = some (.int .i64 bseg) ∧ w1.cell? ⟨w.heap.size + 1, 1, none⟩ = some (.slice bwa blw bwc) ∧ w1.cell? ⟨w.heap.size + 1, 2, none⟩ = some (.slice bka blk bkc) ∧ w1.cell? ⟨w.heap.size + 1, 3, none⟩ = some (.slice bva blv bvc) ∧ w1.cell? ⟨w.heap.size + 1, 4, none⟩ = some (.slice bca blc bcc) ∧ w1.cell? ⟨w.heap.size + 1, 5, none⟩ = some (.int .u64 blaid) := by refine ⟨?_, ?_, ?_, ?_, ?_, ?_, ?_, ?_, ?_, ?_, ?_, ?_⟩ <;> (refine (hb1.cell ?_).trans ?_ <;> first | (first | (with_reducible assumption) | omega | (simp only [World.size_alloc, World.size_setCell, World.size_drew, World.heap_drewN] <;> omega) | (simp <;> omega)) | (first | (with_reducible assumption) | ((try simp (disch := first | omega | (simp only [World.size_alloc, World.size_setCell, World.size_drew, World.heap_drewN] <;> omega) | fail) only [World.cell?_alloc_past, World.cell?_alloc_at, World.frozen?_alloc_past, World.frozen?_alloc_at, World.frozen?_setCell, World.cell?_drew, World.frozen?_drew]) <;> first | (with_reducible assumption) | rfl)))
  have all_z : w.heap.size < w1.heap.size ∧ w.heap.size + 1 < w1.heap.size := by refine ⟨?_, ?_⟩ <;> (omega)
  obtain ⟨c_a0, c_a1, c_a2, c_a3, c_a4, c_a5, c_b0, c_b1, c_b2, c_b3, c_b4, c_b5⟩ := all_c
  try clear all_c
  obtain ⟨z_a, z_b⟩ := all_z
  try clear all_z
  have hB1 : Below w.heap.size w w1 := by (repeat (first | (with_reducible exact Below.refl _ _) | (with_reducible assumption) | (with_reducible exact Hid.out (by with_reducible assumption)) | (with_reducible refine Below.alloc ?_ ?_ _) | (with_reducible refine Below.setCell ?_ ?_ _) | (with_reducible refine below_drewN ?_ _) | (with_reducible refine Below.drew ?_) | (with_reducible refine below_via (by with_reducible assumption) ?_ ?_) | (first | (with_reducible assumption) | omega | (simp only [World.size_alloc, World.size_setCell, World.size_drew, World.heap_drewN] <;> omega) | (simp <;> omega))))
  go_wp2_with fail
  refine (G1.out _).mono ?_
  rintro e v1 ⟨rfl, hv1⟩
  have hz_v1 := hv1.size
  try simp only [World.size_alloc, World.size_setCell] at hz_v1
  have all_c : v1.cell? ⟨w.heap.size, 0, none⟩ = some (.int .i64 aseg) ∧ v1.cell? ⟨w.heap.size, 1, none⟩ = some (.slice awa alw awc) ∧ v1.cell? ⟨w.heap.size, 2, none⟩ = some (.slice aka alk akc) ∧ v1.cell? ⟨w.heap.size, 3, none⟩ = some (.slice ava alv avc) ∧ v1.cell? ⟨w.heap.size, 4, none⟩ = some (.slice aca alc acc) ∧ v1.cell? ⟨w.heap.size, 5, none⟩ = some (.int .u64 alaid) ∧ v1.cell? ⟨w.heap.size + 1, 0, none⟩ = some (.int .i64 bseg) ∧ v1.cell? ⟨w.heap.size + 1, 1, none⟩ = some (.slice bwa blw bwc) ∧ v1.cell? ⟨w.heap.size + 1, 2, none⟩ = some (.slice bka blk bkc) ∧ v1.cell? ⟨w.heap.size + 1, 3, none⟩ = some (.slice bva blv bvc) ∧ v1.cell? ⟨w.heap.size + 1, 4, none⟩ = some (.slice bca blc bcc) ∧ v1.cell? ⟨w.heap.size + 1, 5, none⟩ = some (.int .u64 blaid) := by refine ⟨?_, ?_, ?_, ?_, ?_, ?_, ?_, ?_, ?_, ?_, ?_, ?_⟩ <;> (refine (hv1.cell ?_).trans ?_ <;> first | (first | (with_reducible assumption) | omega | (simp only [World.size_alloc, World.size_setCell, World.size_drew, World.heap_drewN] <;> omega) | (simp <;> omega)) | (first | (with_reducible assumption) | ((try simp (disch := first | omega | (simp only [World.size_alloc, World.size_setCell, World.size_drew, World.heap_drewN] <;> omega) | fail) only [World.cell?_alloc_past, World.cell?_alloc_at, World.frozen?_alloc_past, World.frozen?_alloc_at, World.frozen?_setCell, World.cell?_drew, World.frozen?_drew]) <;> first | (with_reducible assumption) | rfl)))
  have all_z : w.heap.size < v1.heap.size ∧ w.heap.size + 1 < v1.heap.size := by refine ⟨?_, ?_⟩ <;> (omega)
  clear c_a0 c_a1 c_a2 c_a3 c_a4 c_a5 c_b0 c_b1 c_b2 c_b3 c_b4 c_b5 z_a z_b
  obtain ⟨c_a0, c_a1, c_a2, c_a3, c_a4, c_a5, c_b0, c_b1, c_b2, c_b3, c_b4, c_b5⟩ := all_c
  try clear all_c
  obtain ⟨z_a, z_b⟩ := all_z
  try clear all_z
  have hV1 : Below w.heap.size w v1 := by (repeat (first | (with_reducible exact Below.refl _ _) | (with_reducible assumption) | (with_reducible exact Hid.out (by with_reducible assumption)) | (with_reducible refine Below.alloc ?_ ?_ _) | (with_reducible refine Below.setCell ?_ ?_ _) | (with_reducible refine below_drewN ?_ _) | (with_reducible refine Below.drew ?_) | (with_reducible refine below_via (by with_reducible assumption) ?_ ?_) | (first | (with_reducible assumption) | omega | (simp only [World.size_alloc, World.size_setCell, World.size_drew, World.heap_drewN] <;> omega) | (simp <;> omega))))
  go_wp2_with fail
  refine (G2.out _).mono ?_
  rintro e v2 ⟨rfl, hv2⟩
  have hz_v2 := hv2.size
  try simp only [World.size_alloc, World.size_setCell] at hz_v2
  have hV2 : Below w.heap.size w v2 := by (repeat (first | (with_reducible exact Below.refl _ _) | (with_reducible assumption) | (with_reducible exact Hid.out (by with_reducible assumption)) | (with_reducible refine Below.alloc ?_ ?_ _) | (with_reducible refine Below.setCell ?_ ?_ _) | (with_reducible refine below_drewN ?_ _) | (with_reducible refine Below.drew ?_) | (with_reducible refine below_via (by with_reducible assumption) ?_ ?_) | (first | (with_reducible assumption) | omega | (simp only [World.size_alloc, World.size_setCell, World.size_drew, World.heap_drewN] <;> omega) | (simp <;> omega))))
  go_wp2
  go_ret
  exact ⟨rfl, hV2⟩

set_option maxRecDepth 100000 in
set_option maxHeartbeats 1000000 in
theorem MI_bad (aseg : Int) (awa aka ava aca : Option Addr) (awc akc avc acc alw alk alv alc : Nat) (alaid : Int) (bseg : Int) (bwa bka bva bca : Option Addr) (bwc bkc bvc bcc blw blk blv blc : Nat) (blaid : Int) (at_ : Int) (w : World) (x1 x2 e1 y1 y2 f1 : Int) (g : Int) (hg : g ≠ 0) (G1 : Hid (∀ W, Calls Try.prog 10 #[.agg #[.int .i64 aseg, .slice awa alw awc, .slice aka alk akc, .slice ava alv avc, .slice aca alc acc, .int .u64 alaid], .int .i64 600] W (AnsB W (.bool false)))) (G2 : Hid (∀ W, Calls Try.prog 10 #[.agg #[.int .i64 bseg, .slice bwa blw bwc, .slice bka blk bkc, .slice bva blv bvc, .slice bca blc bcc, .int .u64 blaid], .int .i64 600] W (AnsB W (.bool false))))
    (TU : Hid (∀ W, Below w.heap.size w W → Calls Try.prog 13 #[.agg #[.int .i64 aseg, .slice awa alw awc, .slice aka alk akc, .slice ava alv avc, .slice aca alc acc, .int .u64 alaid], .agg #[.int .i64 bseg, .slice bwa blw bwc, .slice bka blk bkc, .slice bva blv bvc, .slice bca blc bcc, .int .u64 blaid]] W (AnsB W (.tuple #[.int .i64 0, .int .i64 0, .int .i64 g]))))
    (TA : Hid (∀ W, Below w.heap.size w W → Calls Try.prog 25 #[.agg #[.int .i64 aseg, .slice awa alw awc, .slice aka alk akc, .slice ava alv avc, .slice aca alc acc, .int .u64 alaid], .int .i64 at_] W (AnsB W (.tuple #[.agg #[.int .i64 x1, .int .i64 x2], .int .i64 e1]))))
    (TB : Hid (∀ W, Below w.heap.size w W → Calls Try.prog 25 #[.agg #[.int .i64 bseg, .slice bwa blw bwc, .slice bka blk bkc, .slice bva blv bvc, .slice bca blc bcc, .int .u64 blaid], .int .i64 at_] W (AnsB W (.tuple #[.agg #[.int .i64 y1, .int .i64 y2], .int .i64 f1])))) :
    Calls Try.prog 6 #[.agg #[.int .i64 aseg, .slice awa alw awc, .slice aka alk akc, .slice ava alv avc, .slice aca alc acc, .int .u64 alaid], .agg #[.int .i64 bseg, .slice bwa blw bwc, .slice bka blk bkc, .slice bva blv bvc, .slice bca blc bcc, .int .u64 blaid], .int .i64 at_] w (AnsB w (.bool true)) := by
  have AL := Lib.hid alive20_ok
  have g1 : (g != 0) = true := by simpa using hg
  have g2 : (g == 0) = false := by simpa using hg
  clear hg
  go_enter Try.func6, Try.ntmps6
  go_wp2_with fail
  refine (AL.out _).mono ?_
  rintro e w1 ⟨rfl, hb1⟩
  have hz_w1 := hb1.size
  try simp only [World.size_alloc, World.size_setCell] at hz_w1
  have all_c : w1.cell? ⟨w.heap.size, 0, none⟩ = some (.int .i64 aseg) ∧ w1.cell? ⟨w.heap.size, 1, none⟩ = some (.slice awa alw awc) ∧ w1.cell? ⟨w.heap.size, 2, none⟩ = some (.slice aka alk akc) ∧ w1.cell? ⟨w.heap.size, 3, none⟩ = some (.slice ava alv avc) ∧ w1.cell? ⟨w.heap.size, 4, none⟩ = some (.slice aca alc acc) ∧ w1.cell? ⟨w.heap.size, 5, none⟩ = some (.int .u64 alaid) ∧ w1.cell? ⟨w.heap.size + 1, 0, none⟩ = some (.int .i64 bseg) ∧ w1.cell? ⟨w.heap.size + 1, 1, none⟩ = some (.slice bwa blw bwc) ∧ w1.cell? ⟨w.heap.size + 1, 2, none⟩ = some (.slice bka blk bkc) ∧ w1.cell? ⟨w.heap.size + 1, 3, none⟩ = some (.slice bva blv bvc) ∧ w1.cell? ⟨w.heap.size + 1, 4, none⟩ = some (.slice bca blc bcc) ∧ w1.cell? ⟨w.heap.size + 1, 5, none⟩ = some (.int .u64 blaid) := by refine ⟨?_, ?_, ?_, ?_, ?_, ?_, ?_, ?_, ?_, ?_, ?_, ?_⟩ <;> (refine (hb1.cell ?_).trans ?_ <;> first | (first | (with_reducible assumption) | omega | (simp only [World.size_alloc, World.size_setCell, World.size_drew, World.heap_drewN] <;> omega) | (simp <;> omega)) | (first | (with_reducible assumption) | ((try simp (disch := first | omega | (simp only [World.size_alloc, World.size_setCell, World.size_drew, World.heap_drewN] <;> omega) | fail) only [World.cell?_alloc_past, World.cell?_alloc_at, World.frozen?_alloc_past, World.frozen?_alloc_at, World.frozen?_setCell, World.cell?_drew, World.frozen?_drew]) <;> first | (with_reducible assumption) | rfl)))
  have all_z : w.heap.size < w1.heap.size ∧ w.heap.size + 1 < w1.heap.size := by refine ⟨?_, ?_⟩ <;> (omega)
  obtain ⟨c_a0, c_a1, c_a2, c_a3, c_a4, c_a5, c_b0, c_b1, c_b2, c_b3, c_b4, c_b5⟩ := all_c
  try clear all_c
  obtain ⟨z_a, z_b⟩ := all_z
  try clear all_z
  have hB1 : Below w.heap.size w w1 := by (repeat (first | (with_reducible exact Below.refl _ _) | (with_reducible assumption) | (with_reducible exact Hid.out (by with_reducible assumption)) | (with_reducible refine Below.alloc ?_ ?_ _) | (with_reducible refine Below.setCell ?_ ?_ _) | (with_reducible refine below_drewN ?_ _) | (with_reducible refine Below.drew ?_) | (with_reducible refine below_via (by with_reducible assumption) ?_ ?_) | (first | (with_reducible assumption) | omega | (simp only [World.size_alloc, World.size_setCell, World.size_drew, World.heap_drewN] <;> omega) | (simp <;> omega))))
  go_wp2_with fail
  refine (G1.out _).mono ?_
  rintro e v1 ⟨rfl, hv1⟩
  have hz_v1 := hv1.size
  try simp only [World.size_alloc, World.size_setCell] at hz_v1
  have all_c : v1.cell? ⟨w.heap.size, 0, none⟩ = some (.int .i64 aseg) ∧ v1.cell? ⟨w.heap.size, 1, none⟩ = some (.slice awa alw awc) ∧ v1.cell? ⟨w.heap.size, 2, none⟩ = some (.slice aka alk akc) ∧ v1.cell? ⟨w.heap.size, 3, none⟩ = some (.slice ava alv avc) ∧ v1.cell? ⟨w.heap.size, 4, none⟩ = some (.slice aca alc acc) ∧ v1.cell? ⟨w.heap.size, 5, none⟩ = some (.int .u64 alaid) ∧ v1.cell? ⟨w.heap.size + 1, 0, none⟩ = some (.int .i64 bseg) ∧ v1.cell? ⟨w.heap.size + 1, 1, none⟩ = some (.slice bwa blw bwc) ∧ v1.cell? ⟨w.heap.size + 1, 2, none⟩ = some (.slice bka blk bkc) ∧ v1.cell? ⟨w.heap.size + 1, 3, none⟩ = some (.slice bva blv bvc) ∧ v1.cell? ⟨w.heap.size + 1, 4, none⟩ = some (.slice bca blc bcc) ∧ v1.cell? ⟨w.heap.size + 1, 5, none⟩ = some (.int .u64 blaid) := by refine ⟨?_, ?_, ?_, ?_, ?_, ?_, ?_, ?_, ?_, ?_, ?_, ?_⟩ <;> (refine (hv1.cell ?_).trans ?_ <;> first | (first | (with_reducible assumption) | omega | (simp only [World.size_alloc, World.size_setCell, World.size_drew, World.heap_drewN] <;> omega) | (simp <;> omega)) | (first | (with_reducible assumption) | ((try simp (disch := first | omega | (simp only [World.size_alloc, World.size_setCell, World.size_drew, World.heap_drewN] <;> omega) | fail) only [World.cell?_alloc_past, World.cell?_alloc_at, World.frozen?_alloc_past, World.frozen?_alloc_at, World.frozen?_setCell, World.cell?_drew, World.frozen?_drew]) <;> first | (with_reducible assumption) | rfl)))
  have all_z : w.heap.size < v1.heap.size ∧ w.heap.size + 1 < v1.heap.size := by refine ⟨?_, ?_⟩ <;> (omega)
  clear c_a0 c_a1 c_a2 c_a3 c_a4 c_a5 c_b0 c_b1 c_b2 c_b3 c_b4 c_b5 z_a z_b
  obtain ⟨c_a0, c_a1, c_a2, c_a3, c_a4, c_a5, c_b0, c_b1, c_b2, c_b3, c_b4, c_b5⟩ := all_c
  try clear all_c
  obtain ⟨z_a, z_b⟩ := all_z
  try clear all_z
  have hV1 : Below w.heap.size w v1 := by (repeat (first | (with_reducible exact Below.refl _ _) | (with_reducible assumption) | (with_reducible exact Hid.out (by with_reducible assumption)) | (with_reducible refine Below.alloc ?_ ?_ _) | (with_reducible refine Below.setCell ?_ ?_ _) | (with_reducible refine below_drewN ?_ _) | (with_reducible refine Below.drew ?_) | (with_reducible refine below_via (by with_reducible assumption) ?_ ?_) | (first | (with_reducible assumption) | omega | (simp only [World.size_alloc, World.size_setCell, World.size_drew, World.heap_drewN] <;> omega) | (simp <;> omega))))
  go_wp2_with fail
  refine (G2.out _).mono ?_
  rintro e v2 ⟨rfl, hv2⟩
  have hz_v2 := hv2.size
  try simp only [World.size_alloc, World.size_setCell] at hz_v2
  have all_c : v2.cell? ⟨w.heap.size, 0, none⟩ = some (.int .i64 aseg) ∧ v2.cell? ⟨w.heap.size, 1, none⟩ = some (.slice awa alw awc) ∧ v2.cell? ⟨w.heap.size, 2, none⟩ = some (.slice aka alk akc) ∧ v2.cell? ⟨w.heap.size, 3, none⟩ = some (.slice ava alv avc) ∧ v2.cell? ⟨w.heap.size, 4, none⟩ = some (.slice aca alc acc) ∧ v2.cell? ⟨w.heap.size, 5, none⟩ = some (.int .u64 alaid) ∧ v2.cell? ⟨w.heap.size + 1, 0, none⟩ = some (.int .i64 bseg) ∧ v2.cell? ⟨w.heap.size + 1, 1, none⟩ = some (.slice bwa blw bwc) ∧ v2.cell? ⟨w.heap.size + 1, 2, none⟩ = some (.slice bka blk bkc) ∧ v2.cell? ⟨w.heap.size + 1, 3, none⟩ = some (.slice bva blv bvc) ∧ v2.cell? ⟨w.heap.size + 1, 4, none⟩ = some (.slice bca blc bcc) ∧ v2.cell? ⟨w.heap.size + 1, 5, none⟩ = some (.int .u64 blaid) := by refine ⟨?_, ?_, ?_, ?_, ?_, ?_, ?_, ?_, ?_, ?_, ?_, ?_⟩ <;> (refine (hv2.cell ?_).trans ?_ <;> first | (first | (with_reducible assumption) | omega | (simp only [World.size_alloc, World.size_setCell, World.size_drew, World.heap_drewN] <;> omega) | (simp <;> omega)) | (first | (with_reducible assumption) | ((try simp (disch := first | omega | (simp only [World.size_alloc, World.size_setCell, World.size_drew, World.heap_drewN] <;> omega) | fail) only [World.cell?_alloc_past, World.cell?_alloc_at, World.frozen?_alloc_past, World.frozen?_alloc_at, World.frozen?_setCell, World.cell?_drew, World.frozen?_drew]) <;> first | (with_reducible assumption) | rfl)))
  have all_z : w.heap.size < v2.heap.size ∧ w.heap.size + 1 < v2.heap.size := by refine ⟨?_, ?_⟩ <;> (omega)
  clear c_a0 c_a1 c_a2 c_a3 c_a4 c_a5 c_b0 c_b1 c_b2 c_b3 c_b4 c_b5 z_a z_b
  obtain ⟨c_a0, c_a1, c_a2, c_a3, c_a4, c_a5, c_b0, c_b1, c_b2, c_b3, c_b4, c_b5⟩ := all_c
  try clear all_c
  obtain ⟨z_a, z_b⟩ := all_z
  try clear all_z
  have hV2 : Below w.heap.size w v2 := by (repeat (first | (with_reducible exact Below.refl _ _) | (with_reducible assumption) | (with_reducible exact Hid.out (by with_reducible assumption)) | (with_reducible refine Below.alloc ?_ ?_ _) | (with_reducible refine Below.setCell ?_ ?_ _) | (with_reducible refine below_drewN ?_ _) | (with_reducible refine Below.drew ?_) | (with_reducible refine below_via (by with_reducible assumption) ?_ ?_) | (first | (with_reducible assumption) | omega | (simp only [World.size_alloc, World.size_setCell, World.size_drew, World.heap_drewN] <;> omega) | (simp <;> omega))))
  go_wp2_with fail
  refine (TU.out _ hV2).mono ?_
  rintro e w3 ⟨rfl, hb3⟩
  have hz_w3 := hb3.size
  try simp only [World.size_alloc, World.size_setCell] at hz_w3
  have all_c : w3.cell? ⟨w.heap.size, 0, none⟩ = some (.int .i64 aseg) ∧ w3.cell? ⟨w.heap.size, 1, none⟩ = some (.slice awa alw awc) ∧ w3.cell? ⟨w.heap.size, 2, none⟩ = some (.slice aka alk akc) ∧ w3.cell? ⟨w.heap.size, 3, none⟩ = some (.slice ava alv avc) ∧ w3.cell? ⟨w.heap.size, 4, none⟩ = some (.slice aca alc acc) ∧ w3.cell? ⟨w.heap.size, 5, none⟩ = some (.int .u64 alaid) ∧ w3.cell? ⟨w.heap.size + 1, 0, none⟩ = some (.int .i64 bseg) ∧ w3.cell? ⟨w.heap.size + 1, 1, none⟩ = some (.slice bwa blw bwc) ∧ w3.cell? ⟨w.heap.size + 1, 2, none⟩ = some (.slice bka blk bkc) ∧ w3.cell? ⟨w.heap.size + 1, 3, none⟩ = some (.slice bva blv bvc) ∧ w3.cell? ⟨w.heap.size + 1, 4, none⟩ = some (.slice bca blc bcc) ∧ w3.cell? ⟨w.heap.size + 1, 5, none⟩ = some (.int .u64 blaid) := by refine ⟨?_, ?_, ?_, ?_, ?_, ?_, ?_, ?_, ?_, ?_, ?_, ?_⟩ <;> (refine (hb3.cell ?_).trans ?_ <;> first | (first | (with_reducible assumption) | omega | (simp only [World.size_alloc, World.size_setCell, World.size_drew, World.heap_drewN] <;> omega) | (simp <;> omega)) | (first | (with_reducible assumption) | ((try simp (disch := first | omega | (simp only [World.size_alloc, World.size_setCell, World.size_drew, World.heap_drewN] <;> omega) | fail) only [World.cell?_alloc_past, World.cell?_alloc_at, World.frozen?_alloc_past, World.frozen?_alloc_at, World.frozen?_setCell, World.cell?_drew, World.frozen?_drew]) <;> first | (with_reducible assumption) | rfl)))
  have all_z : w.heap.size < w3.heap.size ∧ w.heap.size + 1 < w3.heap.size := by refine ⟨?_, ?_⟩ <;> (omega)
  clear c_a0 c_a1 c_a2 c_a3 c_a4 c_a5 c_b0 c_b1 c_b2 c_b3 c_b4 c_b5 z_a z_b
  obtain ⟨c_a0, c_a1, c_a2, c_a3, c_a4, c_a5, c_b0, c_b1, c_b2, c_b3, c_b4, c_b5⟩ := all_c
  try clear all_c
  obtain ⟨z_a, z_b⟩ := all_z
  try clear all_z
  have hB3 : Below w.heap.size w w3 := by (repeat (first | (with_reducible exact Below.refl _ _) | (with_reducible assumption) | (with_reducible exact Hid.out (by with_reducible assumption)) | (with_reducible refine Below.alloc ?_ ?_ _) | (with_reducible refine Below.setCell ?_ ?_ _) | (with_reducible refine below_drewN ?_ _) | (with_reducible refine Below.drew ?_) | (with_reducible refine below_via (by with_reducible assumption) ?_ ?_) | (first | (with_reducible assumption) | omega | (simp only [World.size_alloc, World.size_setCell, World.size_drew, World.heap_drewN] <;> omega) | (simp <;> omega))))
  go_wp2_with fail
  refine (TA.out _ hB3).mono ?_
  rintro e w4 ⟨rfl, hb4⟩
  have hz_w4 := hb4.size
  try simp only [World.size_alloc, World.size_setCell] at hz_w4
  have all_c : w4.cell? ⟨w.heap.size, 0, none⟩ = some (.int .i64 aseg) ∧ w4.cell? ⟨w.heap.size, 1, none⟩ = some (.slice awa alw awc) ∧ w4.cell? ⟨w.heap.size, 2, none⟩ = some (.slice aka alk akc) ∧ w4.cell? ⟨w.heap.size, 3, none⟩ = some (.slice ava alv avc) ∧ w4.cell? ⟨w.heap.size, 4, none⟩ = some (.slice aca alc acc) ∧ w4.cell? ⟨w.heap.size, 5, none⟩ = some (.int .u64 alaid) ∧ w4.cell? ⟨w.heap.size + 1, 0, none⟩ = some (.int .i64 bseg) ∧ w4.cell? ⟨w.heap.size + 1, 1, none⟩ = some (.slice bwa blw bwc) ∧ w4.cell? ⟨w.heap.size + 1, 2, none⟩ = some (.slice bka blk bkc) ∧ w4.cell? ⟨w.heap.size + 1, 3, none⟩ = some (.slice bva blv bvc) ∧ w4.cell? ⟨w.heap.size + 1, 4, none⟩ = some (.slice bca blc bcc) ∧ w4.cell? ⟨w.heap.size + 1, 5, none⟩ = some (.int .u64 blaid) := by refine ⟨?_, ?_, ?_, ?_, ?_, ?_, ?_, ?_, ?_, ?_, ?_, ?_⟩ <;> (refine (hb4.cell ?_).trans ?_ <;> first | (first | (with_reducible assumption) | omega | (simp only [World.size_alloc, World.size_setCell, World.size_drew, World.heap_drewN] <;> omega) | (simp <;> omega)) | (first | (with_reducible assumption) | ((try simp (disch := first | omega | (simp only [World.size_alloc, World.size_setCell, World.size_drew, World.heap_drewN] <;> omega) | fail) only [World.cell?_alloc_past, World.cell?_alloc_at, World.frozen?_alloc_past, World.frozen?_alloc_at, World.frozen?_setCell, World.cell?_drew, World.frozen?_drew]) <;> first | (with_reducible assumption) | rfl)))
  have all_z : w.heap.size < w4.heap.size ∧ w.heap.size + 1 < w4.heap.size := by refine ⟨?_, ?_⟩ <;> (omega)
  clear c_a0 c_a1 c_a2 c_a3 c_a4 c_a5 c_b0 c_b1 c_b2 c_b3 c_b4 c_b5 z_a z_b
  obtain ⟨c_a0, c_a1, c_a2, c_a3, c_a4, c_a5, c_b0, c_b1, c_b2, c_b3, c_b4, c_b5⟩ := all_c
  try clear all_c
  obtain ⟨z_a, z_b⟩ := all_z
  try clear all_z
  have hB4 : Below w.heap.size w w4 := by (repeat (first | (with_reducible exact Below.refl _ _) | (with_reducible assumption) | (with_reducible exact Hid.out (by with_reducible assumption)) | (with_reducible refine Below.alloc ?_ ?_ _) | (with_reducible refine Below.setCell ?_ ?_ _) | (with_reducible refine below_drewN ?_ _) | (with_reducible refine Below.drew ?_) | (with_reducible refine below_via (by with_reducible assumption) ?_ ?_) | (first | (with_reducible assumption) | omega | (simp only [World.size_alloc, World.size_setCell, World.size_drew, World.heap_drewN] <;> omega) | (simp <;> omega))))
  go_wp2_with fail
  refine (TB.out _ (by (repeat (first | (with_reducible exact Below.refl _ _) | (with_reducible assumption) | (with_reducible exact Hid.out (by with_reducible assumption)) | (with_reducible refine Below.alloc ?_ ?_ _) | (with_reducible refine Below.setCell ?_ ?_ _) | (with_reducible refine below_drewN ?_ _) | (with_reducible refine Below.drew ?_) | (with_reducible refine below_via (by with_reducible assumption) ?_ ?_) | (first | (with_reducible assumption) | omega | (simp only [World.size_alloc, World.size_setCell, World.size_drew, World.heap_drewN] <;> omega) | (simp <;> omega)))))).mono ?_
  rintro e w5 ⟨rfl, hb5⟩
  have hz_w5 := hb5.size
  try simp only [World.size_alloc, World.size_setCell] at hz_w5
  have all_c : w5.cell? ⟨w.heap.size, 0, none⟩ = some (.int .i64 aseg) ∧ w5.cell? ⟨w.heap.size, 1, none⟩ = some (.slice awa alw awc) ∧ w5.cell? ⟨w.heap.size, 2, none⟩ = some (.slice aka alk akc) ∧ w5.cell? ⟨w.heap.size, 3, none⟩ = some (.slice ava alv avc) ∧ w5.cell? ⟨w.heap.size, 4, none⟩ = some (.slice aca alc acc) ∧ w5.cell? ⟨w.heap.size, 5, none⟩ = some (.int .u64 alaid) ∧ w5.cell? ⟨w4.heap.size, 0, none⟩ = some (.int .i64 x1) ∧ w5.cell? ⟨w4.heap.size, 1, none⟩ = some (.int .i64 x2) := by refine ⟨?_, ?_, ?_, ?_, ?_, ?_, ?_, ?_⟩ <;> (refine (hb5.cell ?_).trans ?_ <;> first | (first | (with_reducible assumption) | omega | (simp only [World.size_alloc, World.size_setCell, World.size_drew, World.heap_drewN] <;> omega) | (simp <;> omega)) | (first | (with_reducible assumption) | ((try simp (disch := first | omega | (simp only [World.size_alloc, World.size_setCell, World.size_drew, World.heap_drewN] <;> omega) | fail) only [World.cell?_alloc_past, World.cell?_alloc_at, World.frozen?_alloc_past, World.frozen?_alloc_at, World.frozen?_setCell, World.cell?_drew, World.frozen?_drew]) <;> first | (with_reducible assumption) | rfl)))
  have all_z : w.heap.size < w5.heap.size ∧ w4.heap.size < w5.heap.size := by refine ⟨?_, ?_⟩ <;> (omega)
  clear c_a0 c_a1 c_a2 c_a3 c_a4 c_a5 z_a
  obtain ⟨c_a0, c_a1, c_a2, c_a3, c_a4, c_a5, c_p0, c_p1⟩ := all_c
  try clear all_c
  obtain ⟨z_a, z_p⟩ := all_z
  try clear all_z
  have hB5 : Below w.heap.size w w5 := by (repeat (first | (with_reducible exact Below.refl _ _) | (with_reducible assumption) | (with_reducible exact Hid.out (by with_reducible assumption)) | (with_reducible refine Below.alloc ?_ ?_ _) | (with_reducible refine Below.setCell ?_ ?_ _) | (with_reducible refine below_drewN ?_ _) | (with_reducible refine Below.drew ?_) | (with_reducible refine below_via (by with_reducible assumption) ?_ ?_) | (first | (with_reducible assumption) | omega | (simp only [World.size_alloc, World.size_setCell, World.size_drew, World.heap_drewN] <;> omega) | (simp <;> omega))))
  go_wp2
  go_ret
  exact ⟨rfl, by (repeat (first | (with_reducible exact Below.refl _ _) | (with_reducible assumption) | (with_reducible exact Hid.out (by with_reducible assumption)) | (with_reducible refine Below.alloc ?_ ?_ _) | (with_reducible refine Below.setCell ?_ ?_ _) | (with_reducible refine below_drewN ?_ _) | (with_reducible refine Below.drew ?_) | (with_reducible refine below_via (by with_reducible assumption) ?_ ?_) | (first | (with_reducible assumption) | omega | (simp only [World.size_alloc, World.size_setCell, World.size_drew, World.heap_drewN] <;> omega) | (simp <;> omega))))⟩

set_option maxRecDepth 100000 in
set_option maxHeartbeats 1000000 in
theorem MI_neg (aseg : Int) (awa aka ava aca : Option Addr) (awc akc avc acc alw alk alv alc : Nat) (alaid : Int) (bseg : Int) (bwa bka bva bca : Option Addr) (bwc bkc bvc bcc blw blk blv blc : Nat) (blaid : Int) (at_ : Int) (w : World) (x1 x2 e1 y1 y2 f1 : Int) (F Tt : Nat) (hs : 4 ≤ aseg) (ha : at_ < 0) (G1 : Hid (∀ W, Calls Try.prog 10 #[.agg #[.int .i64 aseg, .slice awa alw awc, .slice aka alk akc, .slice ava alv avc, .slice aca alc acc, .int .u64 alaid], .int .i64 600] W (AnsB W (.bool false)))) (G2 : Hid (∀ W, Calls Try.prog 10 #[.agg #[.int .i64 bseg, .slice bwa blw bwc, .slice bka blk bkc, .slice bva blv bvc, .slice bca blc bcc, .int .u64 blaid], .int .i64 600] W (AnsB W (.bool false))))
    (TU : Hid (∀ W, Below w.heap.size w W → Calls Try.prog 13 #[.agg #[.int .i64 aseg, .slice awa alw awc, .slice aka alk akc, .slice ava alv avc, .slice aca alc acc, .int .u64 alaid], .agg #[.int .i64 bseg, .slice bwa blw bwc, .slice bka blk bkc, .slice bva blv bvc, .slice bca blc bcc, .int .u64 blaid]] W (AnsB W (.tuple #[.int .i64 F, .int .i64 Tt, .int .i64 0]))))
    (TA : Hid (∀ W, Below w.heap.size w W → Calls Try.prog 25 #[.agg #[.int .i64 aseg, .slice awa alw awc, .slice aka alk akc, .slice ava alv avc, .slice aca alc acc, .int .u64 alaid], .int .i64 at_] W (AnsB W (.tuple #[.agg #[.int .i64 x1, .int .i64 x2], .int .i64 e1]))))
    (TB : Hid (∀ W, Below w.heap.size w W → Calls Try.prog 25 #[.agg #[.int .i64 bseg, .slice bwa blw bwc, .slice bka blk bkc, .slice bva blv bvc, .slice bca blc bcc, .int .u64 blaid], .int .i64 at_] W (AnsB W (.tuple #[.agg #[.int .i64 y1, .int .i64 y2], .int .i64 f1])))) :
    Calls Try.prog 6 #[.agg #[.int .i64 aseg, .slice awa alw awc, .slice aka alk akc, .slice ava alv avc, .slice aca alc acc, .int .u64 alaid], .agg #[.int .i64 bseg, .slice bwa blw bwc, .slice bka blk bkc, .slice bva blv bvc, .slice bca blc bcc, .int .u64 blaid], .int .i64 at_] w (AnsB w (.bool true)) := by
  have AL := Lib.hid alive20_ok
  go_enter Try.func6, Try.ntmps6
  go_wp2_with fail
  refine (AL.out _).mono ?_
  rintro e w1 ⟨rfl, hb1⟩
  have hz_w1 := hb1.size
  try simp only [World.size_alloc, World.size_setCell] at hz_w1
  have all_c : w1.cell? ⟨w.heap.size, 0, none⟩ = some (.int .i64 aseg) ∧ w1.cell? ⟨w.heap.size, 1, none⟩ = some (.slice awa alw awc) ∧ w1.cell? ⟨w.heap.size, 2, none⟩ = some (.slice aka alk akc) ∧ w1.cell? ⟨w.heap.size, 3, none⟩ = some (.slice ava alv avc) ∧ w1.cell? ⟨w.heap.size, 4, none⟩ = some (.slice aca alc acc) ∧ w1.cell? ⟨w.heap.size, 5, none⟩ = some (.int .u64 alaid) ∧ w1.cell? ⟨w.heap.size + 1, 0, none⟩ = some (.int .i64 bseg) ∧ w1.cell? ⟨w.heap.size + 1, 1, none⟩ = some (.slice bwa blw bwc) ∧ w1.cell? ⟨w.heap.size + 1, 2, none⟩ = some (.slice bka blk bkc) ∧ w1.cell? ⟨w.heap.size + 1, 3, none⟩ = some (.slice bva blv bvc) ∧ w1.cell? ⟨w.heap.size + 1, 4, none⟩ = some (.slice bca blc bcc) ∧ w1.cell? ⟨w.heap.size + 1, 5, none⟩ = some (.int .u64 blaid) := by refine ⟨?_, ?_, ?_, ?_, ?_, ?_, ?_, ?_, ?_, ?_, ?_, ?_⟩ <;> (refine (hb1.cell ?_).trans ?_ <;> first | (first | (with_reducible assumption) | omega | (simp only [World.size_alloc, World.size_setCell, World.size_drew, World.heap_drewN] <;> omega) | (simp <;> omega)) | (first | (with_reducible assumption) | ((try simp (disch := first | omega | (simp only [World.size_alloc, World.size_setCell, World.size_drew, World.heap_drewN] <;> omega) | fail) only [World.cell?_alloc_past, World.cell?_alloc_at, World.frozen?_alloc_past, World.frozen?_alloc_at, World.frozen?_setCell, World.cell?_drew, World.frozen?_drew]) <;> first | (with_reducible assumption) | rfl)))
  have all_z : w.heap.size < w1.heap.size ∧ w.heap.size + 1 < w1.heap.size := by refine ⟨?_, ?_⟩ <;> (omega)
  obtain ⟨c_a0, c_a1, c_a2, c_a3, c_a4, c_a5, c_b0, c_b1, c_b2, c_b3, c_b4, c_b5⟩ := all_c
  try clear all_c
  obtain ⟨z_a, z_b⟩ := all_z
  try clear all_z
  have hB1 : Below w.heap.size w w1 := by (repeat (first | (with_reducible exact Below.refl _ _) | (with_reducible assumption) | (with_reducible exact Hid.out (by with_reducible assumption)) | (with_reducible refine Below.alloc ?_ ?_ _) | (with_reducible refine Below.setCell ?_ ?_ _) | (with_reducible refine below_drewN ?_ _) | (with_reducible refine Below.drew ?_) | (with_reducible refine below_via (by with_reducible assumption) ?_ ?_) | (first | (with_reducible assumption) | omega | (simp only [World.size_alloc, World.size_setCell, World.size_drew, World.heap_drewN] <;> omega) | (simp <;> omega))))
  go_wp2_with fail
  refine (G1.out _).mono ?_
  rintro e v1 ⟨rfl, hv1⟩
  have hz_v1 := hv1.size
  try simp only [World.size_alloc, World.size_setCell] at hz_v1
  have all_c : v1.cell? ⟨w.heap.size, 0, none⟩ = some (.int .i64 aseg) ∧ v1.cell? ⟨w.heap.size, 1, none⟩ = some (.slice awa alw awc) ∧ v1.cell? ⟨w.heap.size, 2, none⟩ = some (.slice aka alk akc) ∧ v1.cell? ⟨w.heap.size, 3, none⟩ = some (.slice ava alv avc) ∧ v1.cell? ⟨w.heap.size, 4, none⟩ = some (.slice aca alc acc) ∧ v1.cell? ⟨w.heap.size, 5, none⟩ = some (.int .u64 alaid) ∧ v1.cell? ⟨w.heap.size + 1, 0, none⟩ = some (.int .i64 bseg) ∧ v1.cell? ⟨w.heap.size + 1, 1, none⟩ = some (.slice bwa blw bwc) ∧ v1.cell? ⟨w.heap.size + 1, 2, none⟩ = some (.slice bka blk bkc) ∧ v1.cell? ⟨w.heap.size + 1, 3, none⟩ = some (.slice bva blv bvc) ∧ v1.cell? ⟨w.heap.size + 1, 4, none⟩ = some (.slice bca blc bcc) ∧ v1.cell? ⟨w.heap.size + 1, 5, none⟩ = some (.int .u64 blaid) := by refine ⟨?_, ?_, ?_, ?_, ?_, ?_, ?_, ?_, ?_, ?_, ?_, ?_⟩ <;> (refine (hv1.cell ?_).trans ?_ <;> first | (first | (with_reducible assumption) | omega | (simp only [World.size_alloc, World.size_setCell, World.size_drew, World.heap_drewN] <;> omega) | (simp <;> omega)) | (first | (with_reducible assumption) | ((try simp (disch := first | omega | (simp only [World.size_alloc, World.size_setCell, World.size_drew, World.heap_drewN] <;> omega) | fail) only [World.cell?_alloc_past, World.cell?_alloc_at, World.frozen?_alloc_past, World.frozen?_alloc_at, World.frozen?_setCell, World.cell?_drew, World.frozen?_drew]) <;> first | (with_reducible assumption) | rfl)))
  have all_z : w.heap.size < v1.heap.size ∧ w.heap.size + 1 < v1.heap.size := by refine ⟨?_, ?_⟩ <;> (omega)
  clear c_a0 c_a1 c_a2 c_a3 c_a4 c_a5 c_b0 c_b1 c_b2 c_b3 c_b4 c_b5 z_a z_b
  obtain ⟨c_a0, c_a1, c_a2, c_a3, c_a4, c_a5, c_b0, c_b1, c_b2, c_b3, c_b4, c_b5⟩ := all_c
  try clear all_c
  obtain ⟨z_a, z_b⟩ := all_z
  try clear all_z
  have hV1 : Below w.heap.size w v1 := by (repeat (first | (with_reducible exact Below.refl _ _) | (with_reducible assumption) | (with_reducible exact Hid.out (by with_reducible assumption)) | (with_reducible refine Below.alloc ?_ ?_ _) | (with_reducible refine Below.setCell ?_ ?_ _) | (with_reducible refine below_drewN ?_ _) | (with_reducible refine Below.drew ?_) | (with_reducible refine below_via (by with_reducible assumption) ?_ ?_) | (first | (with_reducible assumption) | omega | (simp only [World.size_alloc, World.size_setCell, World.size_drew, World.heap_drewN] <;> omega) | (simp <;> omega))))
  go_wp2_with fail
  refine (G2.out _).mono ?_
  rintro e v2 ⟨rfl, hv2⟩
  have hz_v2 := hv2.size
  try simp only [World.size_alloc, World.size_setCell] at hz_v2
  have all_c : v2.cell? ⟨w.heap.size, 0, none⟩ = some (.int .i64 aseg) ∧ v2.cell? ⟨w.heap.size, 1, none⟩ = some (.slice awa alw awc) ∧ v2.cell? ⟨w.heap.size, 2, none⟩ = some (.slice aka alk akc) ∧ v2.cell? ⟨w.heap.size, 3, none⟩ = some (.slice ava alv avc) ∧ v2.cell? ⟨w.heap.size, 4, none⟩ = some (.slice aca alc acc) ∧ v2.cell? ⟨w.heap.size, 5, none⟩ = some (.int .u64 alaid) ∧ v2.cell? ⟨w.heap.size + 1, 0, none⟩ = some (.int .i64 bseg) ∧ v2.cell? ⟨w.heap.size + 1, 1, none⟩ = some (.slice bwa blw bwc) ∧ v2.cell? ⟨w.heap.size + 1, 2, none⟩ = some (.slice bka blk bkc) ∧ v2.cell? ⟨w.heap.size + 1, 3, none⟩ = some (.slice bva blv bvc) ∧ v2.cell? ⟨w.heap.size + 1, 4, none⟩ = some (.slice bca blc bcc) ∧ v2.cell? ⟨w.heap.size + 1, 5, none⟩ = some (.int .u64 blaid) := by refine ⟨?_, ?_, ?_, ?_, ?_, ?_, ?_, ?_, ?_, ?_, ?_, ?_⟩ <;> (refine (hv2.cell ?_).trans ?_ <;> first | (first | (with_reducible assumption) | omega | (simp only [World.size_alloc, World.size_setCell, World.size_drew, World.heap_drewN] <;> omega) | (simp <;> omega)) | (first | (with_reducible assumption) | ((try simp (disch := first | omega | (simp only [World.size_alloc, World.size_setCell, World.size_drew, World.heap_drewN] <;> omega) | fail) only [World.cell?_alloc_past, World.cell?_alloc_at, World.frozen?_alloc_past, World.frozen?_alloc_at, World.frozen?_setCell, World.cell?_drew, World.frozen?_drew]) <;> first | (with_reducible assumption) | rfl)))
  have all_z : w.heap.size < v2.heap.size ∧ w.heap.size + 1 < v2.heap.size := by refine ⟨?_, ?_⟩ <;> (omega)
  clear c_a0 c_a1 c_a2 c_a3 c_a4 c_a5 c_b0 c_b1 c_b2 c_b3 c_b4 c_b5 z_a z_b
  obtain ⟨c_a0, c_a1, c_a2, c_a3, c_a4, c_a5, c_b0, c_b1, c_b2, c_b3, c_b4, c_b5⟩ := all_c
  try clear all_c
  obtain ⟨z_a, z_b⟩ := all_z
  try clear all_z
  have hV2 : Below w.heap.size w v2 := by (repeat (first | (with_reducible exact Below.refl _ _) | (with_reducible assumption) | (with_reducible exact Hid.out (by with_reducible assumption)) | (with_reducible refine Below.alloc ?_ ?_ _) | (with_reducible refine Below.setCell ?_ ?_ _) | (with_reducible refine below_drewN ?_ _) | (with_reducible refine Below.drew ?_) | (with_reducible refine below_via (by with_reducible assumption) ?_ ?_) | (first | (with_reducible assumption) | omega | (simp only [World.size_alloc, World.size_setCell, World.size_drew, World.heap_drewN] <;> omega) | (simp <;> omega))))
  go_wp2_with fail
  refine (TU.out _ hV2).mono ?_
  rintro e w3 ⟨rfl, hb3⟩
  have hz_w3 := hb3.size
  try simp only [World.size_alloc, World.size_setCell] at hz_w3
  have all_c : w3.cell? ⟨w.heap.size, 0, none⟩ = some (.int .i64 aseg) ∧ w3.cell? ⟨w.heap.size, 1, none⟩ = some (.slice awa alw awc) ∧ w3.cell? ⟨w.heap.size, 2, none⟩ = some (.slice aka alk akc) ∧ w3.cell? ⟨w.heap.size, 3, none⟩ = some (.slice ava alv avc) ∧ w3.cell? ⟨w.heap.size, 4, none⟩ = some (.slice aca alc acc) ∧ w3.cell? ⟨w.heap.size, 5, none⟩ = some (.int .u64 alaid) ∧ w3.cell? ⟨w.heap.size + 1, 0, none⟩ = some (.int .i64 bseg) ∧ w3.cell? ⟨w.heap.size + 1, 1, none⟩ = some (.slice bwa blw bwc) ∧ w3.cell? ⟨w.heap.size + 1, 2, none⟩ = some (.slice bka blk bkc) ∧ w3.cell? ⟨w.heap.size + 1, 3, none⟩ = some (.slice bva blv bvc) ∧ w3.cell? ⟨w.heap.size + 1, 4, none⟩ = some (.slice bca blc bcc) ∧ w3.cell? ⟨w.heap.size + 1, 5, none⟩ = some (.int .u64 blaid) := by refine ⟨?_, ?_, ?_, ?_, ?_, ?_, ?_, ?_, ?_, ?_, ?_, ?_⟩ <;> (refine (hb3.cell ?_).trans ?_ <;> first | (first | (with_reducible assumption) | omega | (simp only [World.size_alloc, World.size_setCell, World.size_drew, World.heap_drewN] <;> omega) | (simp <;> omega)) | (first | (with_reducible assumption) | ((try simp (disch := first | omega | (simp only [World.size_alloc, World.size_setCell, World.size_drew, World.heap_drewN] <;> omega) | fail) only [World.cell?_alloc_past, World.cell?_alloc_at, World.frozen?_alloc_past, World.frozen?_alloc_at, World.frozen?_setCell, World.cell?_drew, World.frozen?_drew]) <;> first | (with_reducible assumption) | rfl)))
  have all_z : w.heap.size < w3.heap.size ∧ w.heap.size + 1 < w3.heap.size := by refine ⟨?_, ?_⟩ <;> (omega)
  clear c_a0 c_a1 c_a2 c_a3 c_a4 c_a5 c_b0 c_b1 c_b2 c_b3 c_b4 c_b5 z_a z_b
  obtain ⟨c_a0, c_a1, c_a2, c_a3, c_a4, c_a5, c_b0, c_b1, c_b2, c_b3, c_b4, c_b5⟩ := all_c
  try clear all_c
  obtain ⟨z_a, z_b⟩ := all_z
  try clear all_z
  have hB3 : Below w.heap.size w w3 := by (repeat (first | (with_reducible exact Below.refl _ _) | (with_reducible assumption) | (with_reducible exact Hid.out (by with_reducible assumption)) | (with_reducible refine Below.alloc ?_ ?_ _) | (with_reducible refine Below.setCell ?_ ?_ _) | (with_reducible refine below_drewN ?_ _) | (with_reducible refine Below.drew ?_) | (with_reducible refine below_via (by with_reducible assumption) ?_ ?_) | (first | (with_reducible assumption) | omega | (simp only [World.size_alloc, World.size_setCell, World.size_drew, World.heap_drewN] <;> omega) | (simp <;> omega))))
  go_wp2_with fail
  refine (TA.out _ hB3).mono ?_
  rintro e w4 ⟨rfl, hb4⟩
  have hz_w4 := hb4.size
  try simp only [World.size_alloc, World.size_setCell] at hz_w4
  have all_c : w4.cell? ⟨w.heap.size, 0, none⟩ = some (.int .i64 aseg) ∧ w4.cell? ⟨w.heap.size, 1, none⟩ = some (.slice awa alw awc) ∧ w4.cell? ⟨w.heap.size, 2, none⟩ = some (.slice aka alk akc) ∧ w4.cell? ⟨w.heap.size, 3, none⟩ = some (.slice ava alv avc) ∧ w4.cell? ⟨w.heap.size, 4, none⟩ = some (.slice aca alc acc) ∧ w4.cell? ⟨w.heap.size, 5, none⟩ = some (.int .u64 alaid) ∧ w4.cell? ⟨w.heap.size + 1, 0, none⟩ = some (.int .i64 bseg) ∧ w4.cell? ⟨w.heap.size + 1, 1, none⟩ = some (.slice bwa blw bwc) ∧ w4.cell? ⟨w.heap.size + 1, 2, none⟩ = some (.slice bka blk bkc) ∧ w4.cell? ⟨w.heap.size + 1, 3, none⟩ = some (.slice bva blv bvc) ∧ w4.cell? ⟨w.heap.size + 1, 4, none⟩ = some (.slice bca blc bcc) ∧ w4.cell? ⟨w.heap.size + 1, 5, none⟩ = some (.int .u64 blaid) := by refine ⟨?_, ?_, ?_, ?_, ?_, ?_, ?_, ?_, ?_, ?_, ?_, ?_⟩ <;> (refine (hb4.cell ?_).trans ?_ <;> first | (first | (with_reducible assumption) | omega | (simp only [World.size_alloc, World.size_setCell, World.size_drew, World.heap_drewN] <;> omega) | (simp <;> omega)) | (first | (with_reducible assumption) | ((try simp (disch := first | omega | (simp only [World.size_alloc, World.size_setCell, World.size_drew, World.heap_drewN] <;> omega) | fail) only [World.cell?_alloc_past, World.cell?_alloc_at, World.frozen?_alloc_past, World.frozen?_alloc_at, World.frozen?_setCell, World.cell?_drew, World.frozen?_drew]) <;> first | (with_reducible assumption) | rfl)))
  have all_z : w.heap.size < w4.heap.size ∧ w.heap.size + 1 < w4.heap.size := by refine ⟨?_, ?_⟩ <;> (omega)
  clear c_a0 c_a1 c_a2 c_a3 c_a4 c_a5 c_b0 c_b1 c_b2 c_b3 c_b4 c_b5 z_a z_b
  obtain ⟨c_a0, c_a1, c_a2, c_a3, c_a4, c_a5, c_b0, c_b1, c_b2, c_b3, c_b4, c_b5⟩ := all_c
  try clear all_c
  obtain ⟨z_a, z_b⟩ := all_z
  try clear all_z
  have hB4 : Below w.heap.size w w4 := by (repeat (first | (with_reducible exact Below.refl _ _) | (with_reducible assumption) | (with_reducible exact Hid.out (by with_reducible assumption)) | (with_reducible refine Below.alloc ?_ ?_ _) | (with_reducible refine Below.setCell ?_ ?_ _) | (with_reducible refine below_drewN ?_ _) | (with_reducible refine Below.drew ?_) | (with_reducible refine below_via (by with_reducible assumption) ?_ ?_) | (first | (with_reducible assumption) | omega | (simp only [World.size_alloc, World.size_setCell, World.size_drew, World.heap_drewN] <;> omega) | (simp <;> omega))))
  go_wp2_with fail
  refine (TB.out _ (by (repeat (first | (with_reducible exact Below.refl _ _) | (with_reducible assumption) | (with_reducible exact Hid.out (by with_reducible assumption)) | (with_reducible refine Below.alloc ?_ ?_ _) | (with_reducible refine Below.setCell ?_ ?_ _) | (with_reducible refine below_drewN ?_ _) | (with_reducible refine Below.drew ?_) | (with_reducible refine below_via (by with_reducible assumption) ?_ ?_) | (first | (with_reducible assumption) | omega | (simp only [World.size_alloc, World.size_setCell, World.size_drew, World.heap_drewN] <;> omega) | (simp <;> omega)))))).mono ?_
  rintro e w5 ⟨rfl, hb5⟩
  have hz_w5 := hb5.size
  try simp only [World.size_alloc, World.size_setCell] at hz_w5
  have all_c : w5.cell? ⟨w.heap.size, 0, none⟩ = some (.int .i64 aseg) ∧ w5.cell? ⟨w.heap.size, 1, none⟩ = some (.slice awa alw awc) ∧ w5.cell? ⟨w.heap.size, 2, none⟩ = some (.slice aka alk akc) ∧ w5.cell? ⟨w.heap.size, 3, none⟩ = some (.slice ava alv avc) ∧ w5.cell? ⟨w.heap.size, 4, none⟩ = some (.slice aca alc acc) ∧ w5.cell? ⟨w.heap.size, 5, none⟩ = some (.int .u64 alaid) ∧ w5.cell? ⟨w4.heap.size, 0, none⟩ = some (.int .i64 x1) ∧ w5.cell? ⟨w4.heap.size, 1, none⟩ = some (.int .i64 x2) := by refine ⟨?_, ?_, ?_, ?_, ?_, ?_, ?_, ?_⟩ <;> (refine (hb5.cell ?_).trans ?_ <;> first | (first | (with_reducible assumption) | omega | (simp only [World.size_alloc, World.size_setCell, World.size_drew, World.heap_drewN] <;> omega) | (simp <;> omega)) | (first | (with_reducible assumption) | ((try simp (disch := first | omega | (simp only [World.size_alloc, World.size_setCell, World.size_drew, World.heap_drewN] <;> omega) | fail) only [World.cell?_alloc_past, World.cell?_alloc_at, World.frozen?_alloc_past, World.frozen?_alloc_at, World.frozen?_setCell, World.cell?_drew, World.frozen?_drew]) <;> first | (with_reducible assumption) | rfl)))
  have all_z : w.heap.size < w5.heap.size ∧ w4.heap.size < w5.heap.size := by refine ⟨?_, ?_⟩ <;> (omega)
  clear c_a0 c_a1 c_a2 c_a3 c_a4 c_a5 z_a
  obtain ⟨c_a0, c_a1, c_a2, c_a3, c_a4, c_a5, c_p0, c_p1⟩ := all_c
  try clear all_c
  obtain ⟨z_a, z_p⟩ := all_z
  try clear all_z
  have hB5 : Below w.heap.size w w5 := by (repeat (first | (with_reducible exact Below.refl _ _) | (with_reducible assumption) | (with_reducible exact Hid.out (by with_reducible assumption)) | (with_reducible refine Below.alloc ?_ ?_ _) | (with_reducible refine Below.setCell ?_ ?_ _) | (with_reducible refine below_drewN ?_ _) | (with_reducible refine Below.drew ?_) | (with_reducible refine below_via (by with_reducible assumption) ?_ ?_) | (first | (with_reducible assumption) | omega | (simp only [World.size_alloc, World.size_setCell, World.size_drew, World.heap_drewN] <;> omega) | (simp <;> omega))))
  go_wp2
  go_ret
  exact ⟨rfl, by (repeat (first | (with_reducible exact Below.refl _ _) | (with_reducible assumption) | (with_reducible exact Hid.out (by with_reducible assumption)) | (with_reducible refine Below.alloc ?_ ?_ _) | (with_reducible refine Below.setCell ?_ ?_ _) | (with_reducible refine below_drewN ?_ _) | (with_reducible refine Below.drew ?_) | (with_reducible refine below_via (by with_reducible assumption) ?_ ?_) | (first | (with_reducible assumption) | omega | (simp only [World.size_alloc, World.size_setCell, World.size_drew, World.heap_drewN] <;> omega) | (simp <;> omega))))⟩

set_option maxRecDepth 100000 in
set_option maxHeartbeats 1000000 in
theorem MI_far (aseg : Int) (awa aka ava aca : Option Addr) (awc akc avc acc alw alk alv alc : Nat) (alaid : Int) (bseg : Int) (bwa bka bva bca : Option Addr) (bwc bkc bvc bcc blw blk blv blc : Nat) (blaid : Int) (at_ : Int) (w : World) (x1 x2 e1 y1 y2 f1 : Int) (F Tt : Nat) (hs : 4 ≤ aseg) (h0 : 0 ≤ at_) (ha : (alk : Int) ≤ at_) (G1 : Hid (∀ W, Calls Try.prog 10 #[.agg #[.int .i64 aseg, .slice awa alw awc, .slice aka alk akc, .slice ava alv avc, .slice aca alc acc, .int .u64 alaid], .int .i64 600] W (AnsB W (.bool false)))) (G2 : Hid (∀ W, Calls Try.prog 10 #[.agg #[.int .i64 bseg, .slice bwa blw bwc, .slice bka blk bkc, .slice bva blv bvc, .slice bca blc bcc, .int .u64 blaid], .int .i64 600] W (AnsB W (.bool false))))
    (TU : Hid (∀ W, Below w.heap.size w W → Calls Try.prog 13 #[.agg #[.int .i64 aseg, .slice awa alw awc, .slice aka alk akc, .slice ava alv avc, .slice aca alc acc, .int .u64 alaid], .agg #[.int .i64 bseg, .slice bwa blw bwc, .slice bka blk bkc, .slice bva blv bvc, .slice bca blc bcc, .int .u64 blaid]] W (AnsB W (.tuple #[.int .i64 F, .int .i64 Tt, .int .i64 0]))))
    (TA : Hid (∀ W, Below w.heap.size w W → Calls Try.prog 25 #[.agg #[.int .i64 aseg, .slice awa alw awc, .slice aka alk akc, .slice ava alv avc, .slice aca alc acc, .int .u64 alaid], .int .i64 at_] W (AnsB W (.tuple #[.agg #[.int .i64 x1, .int .i64 x2], .int .i64 e1]))))
    (TB : Hid (∀ W, Below w.heap.size w W → Calls Try.prog 25 #[.agg #[.int .i64 bseg, .slice bwa blw bwc, .slice bka blk bkc, .slice bva blv bvc, .slice bca blc bcc, .int .u64 blaid], .int .i64 at_] W (AnsB W (.tuple #[.agg #[.int .i64 y1, .int .i64 y2], .int .i64 f1])))) :
    Calls Try.prog 6 #[.agg #[.int .i64 aseg, .slice awa alw awc, .slice aka alk akc, .slice ava alv avc, .slice aca alc acc, .int .u64 alaid], .agg #[.int .i64 bseg, .slice bwa blw bwc, .slice bka blk bkc, .slice bva blv bvc, .slice bca blc bcc, .int .u64 blaid], .int .i64 at_] w (AnsB w (.bool true)) := by
  have AL := Lib.hid alive20_ok
  go_enter Try.func6, Try.ntmps6
  go_wp2_with fail
  refine (AL.out _).mono ?_
  rintro e w1 ⟨rfl, hb1⟩
  have hz_w1 := hb1.size
  try simp only [World.size_alloc, World.size_setCell] at hz_w1
  have all_c : w1.cell? ⟨w.heap.size, 0, none⟩ = some (.int .i64 aseg) ∧ w1.cell? ⟨w.heap.size, 1, none⟩ = some (.slice awa alw awc) ∧ w1.cell? ⟨w.heap.size, 2, none⟩ = some (.slice aka alk akc) ∧ w1.cell? ⟨w.heap.size, 3, none⟩ = some (.slice ava alv avc) ∧ w1.cell? ⟨w.heap.size, 4, none⟩ = some (.slice aca alc acc) ∧ w1.cell? ⟨w.heap.size, 5, none⟩ = some (.int .u64 alaid) ∧ w1.cell? ⟨w.heap.size + 1, 0, none⟩ = some (.int .i64 bseg) ∧ w1.cell? ⟨w.heap.size + 1, 1, none⟩ = some (.slice bwa blw bwc) ∧ w1.cell? ⟨w.heap.size + 1, 2, none⟩ = some (.slice bka blk bkc) ∧ w1.cell? ⟨w.heap.size + 1, 3, none⟩ = some (.slice bva blv bvc) ∧ w1.cell? ⟨w.heap.size + 1, 4, none⟩ = some (.slice bca blc bcc) ∧ w1.cell? ⟨w.heap.size + 1, 5, none⟩ = some (.int .u64 blaid) := by refine ⟨?_, ?_, ?_, ?_, ?_, ?_, ?_, ?_, ?_, ?_, ?_, ?_⟩ <;> (refine (hb1.cell ?_).trans ?_ <;> first | (first | (with_reducible assumption) | omega | (simp only [World.size_alloc, World.size_setCell, World.size_drew, World.heap_drewN] <;> omega) | (simp <;> omega)) | (first | (with_reducible assumption) | ((try simp (disch := first | omega | (simp only [World.size_alloc, World.size_setCell, World.size_drew, World.heap_drewN] <;> omega) | fail) only [World.cell?_alloc_past, World.cell?_alloc_at, World.frozen?_alloc_past, World.frozen?_alloc_at, World.frozen?_setCell, World.cell?_drew, World.frozen?_drew]) <;> first | (with_reducible assumption) | rfl)))
  have all_z : w.heap.size < w1.heap.size ∧ w.heap.size + 1 < w1.heap.size := by refine ⟨?_, ?_⟩ <;> (omega)
  obtain ⟨c_a0, c_a1, c_a2, c_a3, c_a4, c_a5, c_b0, c_b1, c_b2, c_b3, c_b4, c_b5⟩ := all_c
  try clear all_c
  obtain ⟨z_a, z_b⟩ := all_z
  try clear all_z
  have hB1 : Below w.heap.size w w1 := by (repeat (first | (with_reducible exact Below.refl _ _) | (with_reducible assumption) | (with_reducible exact Hid.out (by with_reducible assumption)) | (with_reducible refine Below.alloc ?_ ?_ _) | (with_reducible refine Below.setCell ?_ ?_ _) | (with_reducible refine below_drewN ?_ _) | (with_reducible refine Below.drew ?_) | (with_reducible refine below_via (by with_reducible assumption) ?_ ?_) | (first | (with_reducible assumption) | omega | (simp only [World.size_alloc, World.size_setCell, World.size_drew, World.heap_drewN] <;> omega) | (simp <;> omega))))
  go_wp2_with fail
  refine (G1.out _).mono ?_
  rintro e v1 ⟨rfl, hv1⟩
  have hz_v1 := hv1.size
  try simp only [World.size_alloc, World.size_setCell] at hz_v1
  have all_c : v1.cell? ⟨w.heap.size, 0, none⟩ = some (.int .i64 aseg) ∧ v1.cell? ⟨w.heap.size, 1, none⟩ = some (.slice awa alw awc) ∧ v1.cell? ⟨w.heap.size, 2, none⟩ = some (.slice aka alk akc) ∧ v1.cell? ⟨w.heap.size, 3, none⟩ = some (.slice ava alv avc) ∧ v1.cell? ⟨w.heap.size, 4, none⟩ = some (.slice aca alc acc) ∧ v1.cell? ⟨w.heap.size, 5, none⟩ = some (.int .u64 alaid) ∧ v1.cell? ⟨w.heap.size + 1, 0, none⟩ = some (.int .i64 bseg) ∧ v1.cell? ⟨w.heap.size + 1, 1, none⟩ = some (.slice bwa blw bwc) ∧ v1.cell? ⟨w.heap.size + 1, 2, none⟩ = some (.slice bka blk bkc) ∧ v1.cell? ⟨w.heap.size + 1, 3, none⟩ = some (.slice bva blv bvc) ∧ v1.cell? ⟨w.heap.size + 1, 4, none⟩ = some (.slice bca blc bcc) ∧ v1.cell? ⟨w.heap.size + 1, 5, none⟩ = some (.int .u64 blaid) := by refine ⟨?_, ?_, ?_, ?_, ?_, ?_, ?_, ?_, ?_, ?_, ?_, ?_⟩ <;> (refine (hv1.cell ?_).trans ?_ <;> first | (first | (with_reducible assumption) | omega | (simp only [World.size_alloc, World.size_setCell, World.size_drew, World.heap_drewN] <;> omega) | (simp <;> omega)) | (first | (with_reducible assumption) | ((try simp (disch := first | omega | (simp only [World.size_alloc, World.size_setCell, World.size_drew, World.heap_drewN] <;> omega) | fail) only [World.cell?_alloc_past, World.cell?_alloc_at, World.frozen?_alloc_past, World.frozen?_alloc_at, World.frozen?_setCell, World.cell?_drew, World.frozen?_drew]) <;> first | (with_reducible assumption) | rfl)))
  have all_z : w.heap.size < v1.heap.size ∧ w.heap.size + 1 < v1.heap.size := by refine ⟨?_, ?_⟩ <;> (omega)
  clear c_a0 c_a1 c_a2 c_a3 c_a4 c_a5 c_b0 c_b1 c_b2 c_b3 c_b4 c_b5 z_a z_b
  obtain ⟨c_a0, c_a1, c_a2, c_a3, c_a4, c_a5, c_b0, c_b1, c_b2, c_b3, c_b4, c_b5⟩ := all_c
  try clear all_c
  obtain ⟨z_a, z_b⟩ := all_z
  try clear all_z
  have hV1 : Below w.heap.size w v1 := by (repeat (first | (with_reducible exact Below.refl _ _) | (with_reducible assumption) | (with_reducible exact Hid.out (by with_reducible assumption)) | (with_reducible refine Below.alloc ?_ ?_ _) | (with_reducible refine Below.setCell ?_ ?_ _) | (with_reducible refine below_drewN ?_ _) | (with_reducible refine Below.drew ?_) | (with_reducible refine below_via (by with_reducible assumption) ?_ ?_) | (first | (with_reducible assumption) | omega | (simp only [World.size_alloc, World.size_setCell, World.size_drew, World.heap_drewN] <;> omega) | (simp <;> omega))))
  go_wp2_with fail
  refine (G2.out _).mono ?_
  rintro e v2 ⟨rfl, hv2⟩
  have hz_v2 := hv2.size
  try simp only [World.size_alloc, World.size_setCell] at hz_v2
  have all_c : v2.cell? ⟨w.heap.size, 0, none⟩ = some (.int .i64 aseg) ∧ v2.cell? ⟨w.heap.size, 1, none⟩ = some (.slice awa alw awc) ∧ v2.cell? ⟨w.heap.size, 2, none⟩ = some (.slice aka alk akc) ∧ v2.cell? ⟨w.heap.size, 3, none⟩ = some (.slice ava alv avc) ∧ v2.cell? ⟨w.heap.size, 4, none⟩ = some (.slice aca alc acc) ∧ v2.cell? ⟨w.heap.size, 5, none⟩ = some (.int .u64 alaid) ∧ v2.cell? ⟨w.heap.size + 1, 0, none⟩ = some (.int .i64 bseg) ∧ v2.cell? ⟨w.heap.size + 1, 1, none⟩ = some (.slice bwa blw bwc) ∧ v2.cell? ⟨w.heap.size + 1, 2, none⟩ = some (.slice bka blk bkc) ∧ v2.cell? ⟨w.heap.size + 1, 3, none⟩ = some (.slice bva blv bvc) ∧ v2.cell? ⟨w.heap.size + 1, 4, none⟩ = some (.slice bca blc bcc) ∧ v2.cell? ⟨w.heap.size + 1, 5, none⟩ = some (.int .u64 blaid) := by refine ⟨?_, ?_, ?_, ?_, ?_, ?_, ?_, ?_, ?_, ?_, ?_, ?_⟩ <;> (refine (hv2.cell ?_).trans ?_ <;> first | (first | (with_reducible assumption) | omega | (simp only [World.size_alloc, World.size_setCell, World.size_drew, World.heap_drewN] <;> omega) | (simp <;> omega)) | (first | (with_reducible assumption) | ((try simp (disch := first | omega | (simp only [World.size_alloc, World.size_setCell, World.size_drew, World.heap_drewN] <;> omega) | fail) only [World.cell?_alloc_past, World.cell?_alloc_at, World.frozen?_alloc_past, World.frozen?_alloc_at, World.frozen?_setCell, World.cell?_drew, World.frozen?_drew]) <;> first | (with_reducible assumption) | rfl)))
  have all_z : w.heap.size < v2.heap.size ∧ w.heap.size + 1 < v2.heap.size := by refine ⟨?_, ?_⟩ <;> (omega)
  clear c_a0 c_a1 c_a2 c_a3 c_a4 c_a5 c_b0 c_b1 c_b2 c_b3 c_b4 c_b5 z_a z_b
  obtain ⟨c_a0, c_a1, c_a2, c_a3, c_a4, c_a5, c_b0, c_b1, c_b2, c_b3, c_b4, c_b5⟩ := all_c
  try clear all_c
  obtain ⟨z_a, z_b⟩ := all_z
  try clear all_z
  have hV2 : Below w.heap.size w v2 := by (repeat (first | (with_reducible exact Below.refl _ _) | (with_reducible assumption) | (with_reducible exact Hid.out (by with_reducible assumption)) | (with_reducible refine Below.alloc ?_ ?_ _) | (with_reducible refine Below.setCell ?_ ?_ _) | (with_reducible refine below_drewN ?_ _) | (with_reducible refine Below.drew ?_) | (with_reducible refine below_via (by with_reducible assumption) ?_ ?_) | (first | (with_reducible assumption) | omega | (simp only [World.size_alloc, World.size_setCell, World.size_drew, World.heap_drewN] <;> omega) | (simp <;> omega))))
  go_wp2_with fail
  refine (TU.out _ hV2).mono ?_
  rintro e w3 ⟨rfl, hb3⟩
  have hz_w3 := hb3.size
  try simp only [World.size_alloc, World.size_setCell] at hz_w3
  have all_c : w3.cell? ⟨w.heap.size, 0, none⟩ = some (.int .i64 aseg) ∧ w3.cell? ⟨w.heap.size, 1, none⟩ = some (.slice awa alw awc) ∧ w3.cell? ⟨w.heap.size, 2, none⟩ = some (.slice aka alk akc) ∧ w3.cell? ⟨w.heap.size, 3, none⟩ = some (.slice ava alv avc) ∧ w3.cell? ⟨w.heap.size, 4, none⟩ = some (.slice aca alc acc) ∧ w3.cell? ⟨w.heap.size, 5, none⟩ = some (.int .u64 alaid) ∧ w3.cell? ⟨w.heap.size + 1, 0, none⟩ = some (.int .i64 bseg) ∧ w3.cell? ⟨w.heap.size + 1, 1, none⟩ = some (.slice bwa blw bwc) ∧ w3.cell? ⟨w.heap.size + 1, 2, none⟩ = some (.slice bka blk bkc) ∧ w3.cell? ⟨w.heap.size + 1, 3, none⟩ = some (.slice bva blv bvc) ∧ w3.cell? ⟨w.heap.size + 1, 4, none⟩ = some (.slice bca blc bcc) ∧ w3.cell? ⟨w.heap.size + 1, 5, none⟩ = some (.int .u64 blaid) := by refine ⟨?_, ?_, ?_, ?_, ?_, ?_, ?_, ?_, ?_, ?_, ?_, ?_⟩ <;> (refine (hb3.cell ?_).trans ?_ <;> first | (first | (with_reducible assumption) | omega | (simp only [World.size_alloc, World.size_setCell, World.size_drew, World.heap_drewN] <;> omega) | (simp <;> omega)) | (first | (with_reducible assumption) | ((try simp (disch := first | omega | (simp only [World.size_alloc, World.size_setCell, World.size_drew, World.heap_drewN] <;> omega) | fail) only [World.cell?_alloc_past, World.cell?_alloc_at, World.frozen?_alloc_past, World.frozen?_alloc_at, World.frozen?_setCell, World.cell?_drew, World.frozen?_drew]) <;> first | (with_reducible assumption) | rfl)))
  have all_z : w.heap.size < w3.heap.size ∧ w.heap.size + 1 < w3.heap.size := by refine ⟨?_, ?_⟩ <;> (omega)
  clear c_a0 c_a1 c_a2 c_a3 c_a4 c_a5 c_b0 c_b1 c_b2 c_b3 c_b4 c_b5 z_a z_b
  obtain ⟨c_a0, c_a1, c_a2, c_a3, c_a4, c_a5, c_b0, c_b1, c_b2, c_b3, c_b4, c_b5⟩ := all_c
  try clear all_c
  obtain ⟨z_a, z_b⟩ := all_z
  try clear all_z
  have hB3 : Below w.heap.size w w3 := by (repeat (first | (with_reducible exact Below.refl _ _) | (with_reducible assumption) | (with_reducible exact Hid.out (by with_reducible assumption)) | (with_reducible refine Below.alloc ?_ ?_ _) | (with_reducible refine Below.setCell ?_ ?_ _) | (with_reducible refine below_drewN ?_ _) | (with_reducible refine Below.drew ?_) | (with_reducible refine below_via (by with_reducible assumption) ?_ ?_) | (first | (with_reducible assumption) | omega | (simp only [World.size_alloc, World.size_setCell, World.size_drew, World.heap_drewN] <;> omega) | (simp <;> omega))))
  go_wp2_with fail
  refine (TA.out _ hB3).mono ?_
  rintro e w4 ⟨rfl, hb4⟩
  have hz_w4 := hb4.size
  try simp only [World.size_alloc, World.size_setCell] at hz_w4
  have all_c : w4.cell? ⟨w.heap.size, 0, none⟩ = some (.int .i64 aseg) ∧ w4.cell? ⟨w.heap.size, 1, none⟩ = some (.slice awa alw awc) ∧ w4.cell? ⟨w.heap.size, 2, none⟩ = some (.slice aka alk akc) ∧ w4.cell? ⟨w.heap.size, 3, none⟩ = some (.slice ava alv avc) ∧ w4.cell? ⟨w.heap.size, 4, none⟩ = some (.slice aca alc acc) ∧ w4.cell? ⟨w.heap.size, 5, none⟩ = some (.int .u64 alaid) ∧ w4.cell? ⟨w.heap.size + 1, 0, none⟩ = some (.int .i64 bseg) ∧ w4.cell? ⟨w.heap.size + 1, 1, none⟩ = some (.slice bwa blw bwc) ∧ w4.cell? ⟨w.heap.size + 1, 2, none⟩ = some (.slice bka blk bkc) ∧ w4.cell? ⟨w.heap.size + 1, 3, none⟩ = some (.slice bva blv bvc) ∧ w4.cell? ⟨w.heap.size + 1, 4, none⟩ = some (.slice bca blc bcc) ∧ w4.cell? ⟨w.heap.size + 1, 5, none⟩ = some (.int .u64 blaid) := by refine ⟨?_, ?_, ?_, ?_, ?_, ?_, ?_, ?_, ?_, ?_, ?_, ?_⟩ <;> (refine (hb4.cell ?_).trans ?_ <;> first | (first | (with_reducible assumption) | omega | (simp only [World.size_alloc, World.size_setCell, World.size_drew, World.heap_drewN] <;> omega) | (simp <;> omega)) | (first | (with_reducible assumption) | ((try simp (disch := first | omega | (simp only [World.size_alloc, World.size_setCell, World.size_drew, World.heap_drewN] <;> omega) | fail) only [World.cell?_alloc_past, World.cell?_alloc_at, World.frozen?_alloc_past, World.frozen?_alloc_at, World.frozen?_setCell, World.cell?_drew, World.frozen?_drew]) <;> first | (with_reducible assumption) | rfl)))
  have all_z : w.heap.size < w4.heap.size ∧ w.heap.size + 1 < w4.heap.size := by refine ⟨?_, ?_⟩ <;> (omega)
  clear c_a0 c_a1 c_a2 c_a3 c_a4 c_a5 c_b0 c_b1 c_b2 c_b3 c_b4 c_b5 z_a z_b
  obtain ⟨c_a0, c_a1, c_a2, c_a3, c_a4, c_a5, c_b0, c_b1, c_b2, c_b3, c_b4, c_b5⟩ := all_c
  try clear all_c
  obtain ⟨z_a, z_b⟩ := all_z
  try clear all_z
  have hB4 : Below w.heap.size w w4 := by (repeat (first | (with_reducible exact Below.refl _ _) | (with_reducible assumption) | (with_reducible exact Hid.out (by with_reducible assumption)) | (with_reducible refine Below.alloc ?_ ?_ _) | (with_reducible refine Below.setCell ?_ ?_ _) | (with_reducible refine below_drewN ?_ _) | (with_reducible refine Below.drew ?_) | (with_reducible refine below_via (by with_reducible assumption) ?_ ?_) | (first | (with_reducible assumption) | omega | (simp only [World.size_alloc, World.size_setCell, World.size_drew, World.heap_drewN] <;> omega) | (simp <;> omega))))
  go_wp2_with fail
  refine (TB.out _ (by (repeat (first | (with_reducible exact Below.refl _ _) | (with_reducible assumption) | (with_reducible exact Hid.out (by with_reducible assumption)) | (with_reducible refine Below.alloc ?_ ?_ _) | (with_reducible refine Below.setCell ?_ ?_ _) | (with_reducible refine below_drewN ?_ _) | (with_reducible refine Below.drew ?_) | (with_reducible refine below_via (by with_reducible assumption) ?_ ?_) | (first | (with_reducible assumption) | omega | (simp only [World.size_alloc, World.size_setCell, World.size_drew, World.heap_drewN] <;> omega) | (simp <;> omega)))))).mono ?_
  rintro e w5 ⟨rfl, hb5⟩
  have hz_w5 := hb5.size
  try simp only [World.size_alloc, World.size_setCell] at hz_w5
  have all_c : w5.cell? ⟨w.heap.size, 0, none⟩ = some (.int .i64 aseg) ∧ w5.cell? ⟨w.heap.size, 1, none⟩ = some (.slice awa alw awc) ∧ w5.cell? ⟨w.heap.size, 2, none⟩ = some (.slice aka alk akc) ∧ w5.cell? ⟨w.heap.size, 3, none⟩ = some (.slice ava alv avc) ∧ w5.cell? ⟨w.heap.size, 4, none⟩ = some (.slice aca alc acc) ∧ w5.cell? ⟨w.heap.size, 5, none⟩ = some (.int .u64 alaid) ∧ w5.cell? ⟨w4.heap.size, 0, none⟩ = some (.int .i64 x1) ∧ w5.cell? ⟨w4.heap.size, 1, none⟩ = some (.int .i64 x2) := by refine ⟨?_, ?_, ?_, ?_, ?_, ?_, ?_, ?_⟩ <;> (refine (hb5.cell ?_).trans ?_ <;> first | (first | (with_reducible assumption) | omega | (simp only [World.size_alloc, World.size_setCell, World.size_drew, World.heap_drewN] <;> omega) | (simp <;> omega)) | (first | (with_reducible assumption) | ((try simp (disch := first | omega | (simp only [World.size_alloc, World.size_setCell, World.size_drew, World.heap_drewN] <;> omega) | fail) only [World.cell?_alloc_past, World.cell?_alloc_at, World.frozen?_alloc_past, World.frozen?_alloc_at, World.frozen?_setCell, World.cell?_drew, World.frozen?_drew]) <;> first | (with_reducible assumption) | rfl)))
  have all_z : w.heap.size < w5.heap.size ∧ w4.heap.size < w5.heap.size := by refine ⟨?_, ?_⟩ <;> (omega)
  clear c_a0 c_a1 c_a2 c_a3 c_a4 c_a5 z_a
  obtain ⟨c_a0, c_a1, c_a2, c_a3, c_a4, c_a5, c_p0, c_p1⟩ := all_c
  try clear all_c
  obtain ⟨z_a, z_p⟩ := all_z
  try clear all_z
  have hB5 : Below w.heap.size w w5 := by (repeat (first | (with_reducible exact Below.refl _ _) | (with_reducible assumption) | (with_reducible exact Hid.out (by with_reducible assumption)) | (with_reducible refine Below.alloc ?_ ?_ _) | (with_reducible refine Below.setCell ?_ ?_ _) | (with_reducible refine below_drewN ?_ _) | (with_reducible refine Below.drew ?_) | (with_reducible refine below_via (by with_reducible assumption) ?_ ?_) | (first | (with_reducible assumption) | omega | (simp only [World.size_alloc, World.size_setCell, World.size_drew, World.heap_drewN] <;> omega) | (simp <;> omega))))
  go_wp2
  go_ret
  exact ⟨rfl, by (repeat (first | (with_reducible exact Below.refl _ _) | (with_reducible assumption) | (with_reducible exact Hid.out (by with_reducible assumption)) | (with_reducible refine Below.alloc ?_ ?_ _) | (with_reducible refine Below.setCell ?_ ?_ _) | (with_reducible refine below_drewN ?_ _) | (with_reducible refine Below.drew ?_) | (with_reducible refine below_via (by with_reducible assumption) ?_ ?_) | (first | (with_reducible assumption) | omega | (simp only [World.size_alloc, World.size_setCell, World.size_drew, World.heap_drewN] <;> omega) | (simp <;> omega))))⟩

set_option maxRecDepth 100000 in
set_option maxHeartbeats 1000000 in
theorem MI_diff1 (aseg : Int) (awa aka ava aca : Option Addr) (awc akc avc acc alw alk alv alc : Nat) (alaid : Int) (bseg : Int) (bwa bka bva bca : Option Addr) (bwc bkc bvc bcc blw blk blv blc : Nat) (blaid : Int) (at_ : Int) (w : World) (x1 x2 e1 y1 y2 f1 : Int) (F Tt : Nat) (Q : Int) (hs : 4 ≤ aseg) (h0 : 0 ≤ at_) (ha : at_ < (alk : Int)) (hq : at_.tdiv aseg = Q) (hQ : (F : Int) ≤ Q ∧ Q < Tt ∧ Q ≤ 65536) (hx : x1 ≠ y1) (G1 : Hid (∀ W, Calls Try.prog 10 #[.agg #[.int .i64 aseg, .slice awa alw awc, .slice aka alk akc, .slice ava alv avc, .slice aca alc acc, .int .u64 alaid], .int .i64 600] W (AnsB W (.bool false)))) (G2 : Hid (∀ W, Calls Try.prog 10 #[.agg #[.int .i64 bseg, .slice bwa blw bwc, .slice bka blk bkc, .slice bva blv bvc, .slice bca blc bcc, .int .u64 blaid], .int .i64 600] W (AnsB W (.bool false))))
    (TU : Hid (∀ W, Below w.heap.size w W → Calls Try.prog 13 #[.agg #[.int .i64 aseg, .slice awa alw awc, .slice aka alk akc, .slice ava alv avc, .slice aca alc acc, .int .u64 alaid], .agg #[.int .i64 bseg, .slice bwa blw bwc, .slice bka blk bkc, .slice bva blv bvc, .slice bca blc bcc, .int .u64 blaid]] W (AnsB W (.tuple #[.int .i64 F, .int .i64 Tt, .int .i64 0]))))
    (TA : Hid (∀ W, Below w.heap.size w W → Calls Try.prog 25 #[.agg #[.int .i64 aseg, .slice awa alw awc, .slice aka alk akc, .slice ava alv avc, .slice aca alc acc, .int .u64 alaid], .int .i64 at_] W (AnsB W (.tuple #[.agg #[.int .i64 x1, .int .i64 x2], .int .i64 e1]))))
    (TB : Hid (∀ W, Below w.heap.size w W → Calls Try.prog 25 #[.agg #[.int .i64 bseg, .slice bwa blw bwc, .slice bka blk bkc, .slice bva blv bvc, .slice bca blc bcc, .int .u64 blaid], .int .i64 at_] W (AnsB W (.tuple #[.agg #[.int .i64 y1, .int .i64 y2], .int .i64 f1])))) :
    Calls Try.prog 6 #[.agg #[.int .i64 aseg, .slice awa alw awc, .slice aka alk akc, .slice ava alv avc, .slice aca alc acc, .int .u64 alaid], .agg #[.int .i64 bseg, .slice bwa blw bwc, .slice bka blk bkc, .slice bva blv bvc, .slice bca blc bcc, .int .u64 blaid], .int .i64 at_] w (AnsB w (.bool true)) := by
  have AL := Lib.hid alive20_ok
  have hqw : IntKind.i64.wrap (at_.tdiv aseg) = Q := by rw [hq]; exact IntWalk.i64_in _ (by omega)
  have hs0 : (aseg == 0) = false := by simp; omega
  have hs1 : ¬ aseg = 0 := by omega
  obtain ⟨hQ1, hQ2, hQ3⟩ := hQ
  have g1 : (x1 == y1) = false := by simpa using hx
  clear hx
  go_enter Try.func6, Try.ntmps6
  go_wp2_with fail
  refine (AL.out _).mono ?_
  rintro e w1 ⟨rfl, hb1⟩
  have hz_w1 := hb1.size
  try simp only [World.size_alloc, World.size_setCell] at hz_w1
  have all_c : w1.cell? ⟨w.heap.size, 0, none⟩ = some (.int .i64 aseg) ∧ w1.cell? ⟨w.heap.size, 1, none⟩ = some (.slice awa alw awc) ∧ w1.cell? ⟨w.heap.size, 2, none⟩ = some (.slice aka alk akc) ∧ w1.cell? ⟨w.heap.size, 3, none⟩ = some (.slice ava alv avc) ∧ w1.cell? ⟨w.heap.size, 4, none⟩ = some (.slice aca alc acc) ∧ w1.cell? ⟨w.heap.size, 5, none⟩ = some (.int .u64 alaid) ∧ w1.cell? ⟨w.heap.size + 1, 0, none⟩ = some (.int .i64 bseg) ∧ w1.cell? ⟨w.heap.size + 1, 1, none⟩ = some (.slice bwa blw bwc) ∧ w1.cell? ⟨w.heap.size + 1, 2, none⟩ = some (.slice bka blk bkc) ∧ w1.cell? ⟨w.heap.size + 1, 3, none⟩ = some (.slice bva blv bvc) ∧ w1.cell? ⟨w.heap.size + 1, 4, none⟩ = some (.slice bca blc bcc) ∧ w1.cell? ⟨w.heap.size + 1, 5, none⟩ = some (.int .u64 blaid) := by refine ⟨?_, ?_, ?_, ?_, ?_, ?_, ?_, ?_, ?_, ?_, ?_, ?_⟩ <;> (refine (hb1.cell ?_).trans ?_ <;> first | (first | (with_reducible assumption) | omega | (simp only [World.size_alloc, World.size_setCell, World.size_drew, World.heap_drewN] <;> omega) | (simp <;> omega)) | (first | (with_reducible assumption) | ((try simp (disch := first | omega | (simp only [World.size_alloc, World.size_setCell, World.size_drew, World.heap_drewN] <;> omega) | fail) only [World.cell?_alloc_past, World.cell?_alloc_at, World.frozen?_alloc_past, World.frozen?_alloc_at, World.frozen?_setCell, World.cell?_drew, World.frozen?_drew]) <;> first | (with_reducible assumption) | rfl)))
  have all_z : w.heap.size < w1.heap.size ∧ w.heap.size + 1 < w1.heap.size := by refine ⟨?_, ?_⟩ <;> (omega)
  obtain ⟨c_a0, c_a1, c_a2, c_a3, c_a4, c_a5, c_b0, c_b1, c_b2, c_b3, c_b4, c_b5⟩ := all_c
  try clear all_c
  obtain ⟨z_a, z_b⟩ := all_z
  try clear all_z
  have hB1 : Below w.heap.size w w1 := by (repeat (first | (with_reducible exact Below.refl _ _) | (with_reducible assumption) | (with_reducible exact Hid.out (by with_reducible assumption)) | (with_reducible refine Below.alloc ?_ ?_ _) | (with_reducible refine Below.setCell ?_ ?_ _) | (with_reducible refine below_drewN ?_ _) | (with_reducible refine Below.drew ?_) | (with_reducible refine below_via (by with_reducible assumption) ?_ ?_) | (first | (with_reducible assumption) | omega | (simp only [World.size_alloc, World.size_setCell, World.size_drew, World.heap_drewN] <;> omega) | (simp <;> omega))))
  go_wp2_with fail
  refine (G1.out _).mono ?_
  rintro e v1 ⟨rfl, hv1⟩
  have hz_v1 := hv1.size
  try simp only [World.size_alloc, World.size_setCell] at hz_v1
  have all_c : v1.cell? ⟨w.heap.size, 0, none⟩ = some (.int .i64 aseg) ∧ v1.cell? ⟨w.heap.size, 1, none⟩ = some (.slice awa alw awc) ∧ v1.cell? ⟨w.heap.size, 2, none⟩ = some (.slice aka alk akc) ∧ v1.cell? ⟨w.heap.size, 3, none⟩ = some (.slice ava alv avc) ∧ v1.cell? ⟨w.heap.size, 4, none⟩ = some (.slice aca alc acc) ∧ v1.cell? ⟨w.heap.size, 5, none⟩ = some (.int .u64 alaid) ∧ v1.cell? ⟨w.heap.size + 1, 0, none⟩ = some (.int .i64 bseg) ∧ v1.cell? ⟨w.heap.size + 1, 1, none⟩ = some (.slice bwa blw bwc) ∧ v1.cell? ⟨w.heap.size + 1, 2, none⟩ = some (.slice bka blk bkc) ∧ v1.cell? ⟨w.heap.size + 1, 3, none⟩ = some (.slice bva blv bvc) ∧ v1.cell? ⟨w.heap.size + 1, 4, none⟩ = some (.slice bca blc bcc) ∧ v1.cell? ⟨w.heap.size + 1, 5, none⟩ = some (.int .u64 blaid) := by refine ⟨?_, ?_, ?_, ?_, ?_, ?_, ?_, ?_, ?_, ?_, ?_, ?_⟩ <;> (refine (hv1.cell ?_).trans ?_ <;> first | (first | (with_reducible assumption) | omega | (simp only [World.size_alloc, World.size_setCell, World.size_drew, World.heap_drewN] <;> omega) | (simp <;> omega)) | (first | (with_reducible assumption) | ((try simp (disch := first | omega | (simp only [World.size_alloc, World.size_setCell, World.size_drew, World.heap_drewN] <;> omega) | fail) only [World.cell?_alloc_past, World.cell?_alloc_at, World.frozen?_alloc_past, World.frozen?_alloc_at, World.frozen?_setCell, World.cell?_drew, World.frozen?_drew]) <;> first | (with_reducible assumption) | rfl)))
  have all_z : w.heap.size < v1.heap.size ∧ w.heap.size + 1 < v1.heap.size := by refine ⟨?_, ?_⟩ <;> (omega)
  clear c_a0 c_a1 c_a2 c_a3 c_a4 c_a5 c_b0 c_b1 c_b2 c_b3 c_b4 c_b5 z_a z_b
  obtain ⟨c_a0, c_a1, c_a2, c_a3, c_a4, c_a5, c_b0, c_b1, c_b2, c_b3, c_b4, c_b5⟩ := all_c
  try clear all_c
  obtain ⟨z_a, z_b⟩ := all_z
  try clear all_z
  have hV1 : Below w.heap.size w v1 := by (repeat (first | (with_reducible exact Below.refl _ _) | (with_reducible assumption) | (with_reducible exact Hid.out (by with_reducible assumption)) | (with_reducible refine Below.alloc ?_ ?_ _) | (with_reducible refine Below.setCell ?_ ?_ _) | (with_reducible refine below_drewN ?_ _) | (with_reducible refine Below.drew ?_) | (with_reducible refine below_via (by with_reducible assumption) ?_ ?_) | (first | (with_reducible assumption) | omega | (simp only [World.size_alloc, World.size_setCell, World.size_drew, World.heap_drewN] <;> omega) | (simp <;> omega))))
  go_wp2_with fail
  refine (G2.out _).mono ?_
  rintro e v2 ⟨rfl, hv2⟩
  have hz_v2 := hv2.size
  try simp only [World.size_alloc, World.size_setCell] at hz_v2
  have all_c : v2.cell? ⟨w.heap.size, 0, none⟩ = some (.int .i64 aseg) ∧ v2.cell? ⟨w.heap.size, 1, none⟩ = some (.slice awa alw awc) ∧ v2.cell? ⟨w.heap.size, 2, none⟩ = some (.slice aka alk akc) ∧ v2.cell? ⟨w.heap.size, 3, none⟩ = some (.slice ava alv avc) ∧ v2.cell? ⟨w.heap.size, 4, none⟩ = some (.slice aca alc acc) ∧ v2.cell? ⟨w.heap.size, 5, none⟩ = some (.int .u64 alaid) ∧ v2.cell? ⟨w.heap.size + 1, 0, none⟩ = some (.int .i64 bseg) ∧ v2.cell? ⟨w.heap.size + 1, 1, none⟩ = some (.slice bwa blw bwc) ∧ v2.cell? ⟨w.heap.size + 1, 2, none⟩ = some (.slice bka blk bkc) ∧ v2.cell? ⟨w.heap.size + 1, 3, none⟩ = some (.slice bva blv bvc) ∧ v2.cell? ⟨w.heap.size + 1, 4, none⟩ = some (.slice bca blc bcc) ∧ v2.cell? ⟨w.heap.size + 1, 5, none⟩ = some (.int .u64 blaid) := by refine ⟨?_, ?_, ?_, ?_, ?_, ?_, ?_, ?_, ?_, ?_, ?_, ?_⟩ <;> (refine (hv2.cell ?_).trans ?_ <;> first | (first | (with_reducible assumption) | omega | (simp only [World.size_alloc, World.size_setCell, World.size_drew, World.heap_drewN] <;> omega) | (simp <;> omega)) | (first | (with_reducible assumption) | ((try simp (disch := first | omega | (simp only [World.size_alloc, World.size_setCell, World.size_drew, World.heap_drewN] <;> omega) | fail) only [World.cell?_alloc_past, World.cell?_alloc_at, World.frozen?_alloc_past, World.frozen?_alloc_at, World.frozen?_setCell, World.cell?_drew, World.frozen?_drew]) <;> first | (with_reducible assumption) | rfl)))
  have all_z : w.heap.size < v2.heap.size ∧ w.heap.size + 1 < v2.heap.size := by refine ⟨?_, ?_⟩ <;> (omega)
  clear c_a0 c_a1 c_a2 c_a3 c_a4 c_a5 c_b0 c_b1 c_b2 c_b3 c_b4 c_b5 z_a z_b
  obtain ⟨c_a0, c_a1, c_a2, c_a3, c_a4, c_a5, c_b0, c_b1, c_b2, c_b3, c_b4, c_b5⟩ := all_c
  try clear all_c
  obtain ⟨z_a, z_b⟩ := all_z
  try clear all_z
  have hV2 : Below w.heap.size w v2 := by (repeat (first | (with_reducible exact Below.refl _ _) | (with_reducible assumption) | (with_reducible exact Hid.out (by with_reducible assumption)) | (with_reducible refine Below.alloc ?_ ?_ _) | (with_reducible refine Below.setCell ?_ ?_ _) | (with_reducible refine below_drewN ?_ _) | (with_reducible refine Below.drew ?_) | (with_reducible refine below_via (by with_reducible assumption) ?_ ?_) | (first | (with_reducible assumption) | omega | (simp only [World.size_alloc, World.size_setCell, World.size_drew, World.heap_drewN] <;> omega) | (simp <;> omega))))
  go_wp2_with fail
  refine (TU.out _ hV2).mono ?_
  rintro e w3 ⟨rfl, hb3⟩
  have hz_w3 := hb3.size
  try simp only [World.size_alloc, World.size_setCell] at hz_w3
  have all_c : w3.cell? ⟨w.heap.size, 0, none⟩ = some (.int .i64 aseg) ∧ w3.cell? ⟨w.heap.size, 1, none⟩ = some (.slice awa alw awc) ∧ w3.cell? ⟨w.heap.size, 2, none⟩ = some (.slice aka alk akc) ∧ w3.cell? ⟨w.heap.size, 3, none⟩ = some (.slice ava alv avc) ∧ w3.cell? ⟨w.heap.size, 4, none⟩ = some (.slice aca alc acc) ∧ w3.cell? ⟨w.heap.size, 5, none⟩ = some (.int .u64 alaid) ∧ w3.cell? ⟨w.heap.size + 1, 0, none⟩ = some (.int .i64 bseg) ∧ w3.cell? ⟨w.heap.size + 1, 1, none⟩ = some (.slice bwa blw bwc) ∧ w3.cell? ⟨w.heap.size + 1, 2, none⟩ = some (.slice bka blk bkc) ∧ w3.cell? ⟨w.heap.size + 1, 3, none⟩ = some (.slice bva blv bvc) ∧ w3.cell? ⟨w.heap.size + 1, 4, none⟩ = some (.slice bca blc bcc) ∧ w3.cell? ⟨w.heap.size + 1, 5, none⟩ = some (.int .u64 blaid) := by refine ⟨?_, ?_, ?_, ?_, ?_, ?_, ?_, ?_, ?_, ?_, ?_, ?_⟩ <;> (refine (hb3.cell ?_).trans ?_ <;> first | (first | (with_reducible assumption) | omega | (simp only [World.size_alloc, World.size_setCell, World.size_drew, World.heap_drewN] <;> omega) | (simp <;> omega)) | (first | (with_reducible assumption) | ((try simp (disch := first | omega | (simp only [World.size_alloc, World.size_setCell, World.size_drew, World.heap_drewN] <;> omega) | fail) only [World.cell?_alloc_past, World.cell?_alloc_at, World.frozen?_alloc_past, World.frozen?_alloc_at, World.frozen?_setCell, World.cell?_drew, World.frozen?_drew]) <;> first | (with_reducible assumption) | rfl)))
  have all_z : w.heap.size < w3.heap.size ∧ w.heap.size + 1 < w3.heap.size := by refine ⟨?_, ?_⟩ <;> (omega)
  clear c_a0 c_a1 c_a2 c_a3 c_a4 c_a5 c_b0 c_b1 c_b2 c_b3 c_b4 c_b5 z_a z_b
  obtain ⟨c_a0, c_a1, c_a2, c_a3, c_a4, c_a5, c_b0, c_b1, c_b2, c_b3, c_b4, c_b5⟩ := all_c
  try clear all_c
  obtain ⟨z_a, z_b⟩ := all_z
  try clear all_z
  have hB3 : Below w.heap.size w w3 := by (repeat (first | (with_reducible exact Below.refl _ _) | (with_reducible assumption) | (with_reducible exact Hid.out (by with_reducible assumption)) | (with_reducible refine Below.alloc ?_ ?_ _) | (with_reducible refine Below.setCell ?_ ?_ _) | (with_reducible refine below_drewN ?_ _) | (with_reducible refine Below.drew ?_) | (with_reducible refine below_via (by with_reducible assumption) ?_ ?_) | (first | (with_reducible assumption) | omega | (simp only [World.size_alloc, World.size_setCell, World.size_drew, World.heap_drewN] <;> omega) | (simp <;> omega))))
  go_wp2_with fail
  refine (TA.out _ hB3).mono ?_
  rintro e w4 ⟨rfl, hb4⟩
  have hz_w4 := hb4.size
  try simp only [World.size_alloc, World.size_setCell] at hz_w4
  have all_c : w4.cell? ⟨w.heap.size, 0, none⟩ = some (.int .i64 aseg) ∧ w4.cell? ⟨w.heap.size, 1, none⟩ = some (.slice awa alw awc) ∧ w4.cell? ⟨w.heap.size, 2, none⟩ = some (.slice aka alk akc) ∧ w4.cell? ⟨w.heap.size, 3, none⟩ = some (.slice ava alv avc) ∧ w4.cell? ⟨w.heap.size, 4, none⟩ = some (.slice aca alc acc) ∧ w4.cell? ⟨w.heap.size, 5, none⟩ = some (.int .u64 alaid) ∧ w4.cell? ⟨w.heap.size + 1, 0, none⟩ = some (.int .i64 bseg) ∧ w4.cell? ⟨w.heap.size + 1, 1, none⟩ = some (.slice bwa blw bwc) ∧ w4.cell? ⟨w.heap.size + 1, 2, none⟩ = some (.slice bka blk bkc) ∧ w4.cell? ⟨w.heap.size + 1, 3, none⟩ = some (.slice bva blv bvc) ∧ w4.cell? ⟨w.heap.size + 1, 4, none⟩ = some (.slice bca blc bcc) ∧ w4.cell? ⟨w.heap.size + 1, 5, none⟩ = some (.int .u64 blaid) := by refine ⟨?_, ?_, ?_, ?_, ?_, ?_, ?_, ?_, ?_, ?_, ?_, ?_⟩ <;> (refine (hb4.cell ?_).trans ?_ <;> first | (first | (with_reducible assumption) | omega | (simp only [World.size_alloc, World.size_setCell, World.size_drew, World.heap_drewN] <;> omega) | (simp <;> omega)) | (first | (with_reducible assumption) | ((try simp (disch := first | omega | (simp only [World.size_alloc, World.size_setCell, World.size_drew, World.heap_drewN] <;> omega) | fail) only [World.cell?_alloc_past, World.cell?_alloc_at, World.frozen?_alloc_past, World.frozen?_alloc_at, World.frozen?_setCell, World.cell?_drew, World.frozen?_drew]) <;> first | (with_reducible assumption) | rfl)))
  have all_z : w.heap.size < w4.heap.size ∧ w.heap.size + 1 < w4.heap.size := by refine ⟨?_, ?_⟩ <;> (omega)
  clear c_a0 c_a1 c_a2 c_a3 c_a4 c_a5 c_b0 c_b1 c_b2 c_b3 c_b4 c_b5 z_a z_b
  obtain ⟨c_a0, c_a1, c_a2, c_a3, c_a4, c_a5, c_b0, c_b1, c_b2, c_b3, c_b4, c_b5⟩ := all_c
  try clear all_c
  obtain ⟨z_a, z_b⟩ := all_z
  try clear all_z
  have hB4 : Below w.heap.size w w4 := by (repeat (first | (with_reducible exact Below.refl _ _) | (with_reducible assumption) | (with_reducible exact Hid.out (by with_reducible assumption)) | (with_reducible refine Below.alloc ?_ ?_ _) | (with_reducible refine Below.setCell ?_ ?_ _) | (with_reducible refine below_drewN ?_ _) | (with_reducible refine Below.drew ?_) | (with_reducible refine below_via (by with_reducible assumption) ?_ ?_) | (first | (with_reducible assumption) | omega | (simp only [World.size_alloc, World.size_setCell, World.size_drew, World.heap_drewN] <;> omega) | (simp <;> omega))))
  go_wp2_with fail
  refine (TB.out _ (by (repeat (first | (with_reducible exact Below.refl _ _) | (with_reducible assumption) | (with_reducible exact Hid.out (by with_reducible assumption)) | (with_reducible refine Below.alloc ?_ ?_ _) | (with_reducible refine Below.setCell ?_ ?_ _) | (with_reducible refine below_drewN ?_ _) | (with_reducible refine Below.drew ?_) | (with_reducible refine below_via (by with_reducible assumption) ?_ ?_) | (first | (with_reducible assumption) | omega | (simp only [World.size_alloc, World.size_setCell, World.size_drew, World.heap_drewN] <;> omega) | (simp <;> omega)))))).mono ?_
  rintro e w5 ⟨rfl, hb5⟩
  have hz_w5 := hb5.size
  try simp only [World.size_alloc, World.size_setCell] at hz_w5
  have all_c : w5.cell? ⟨w.heap.size, 0, none⟩ = some (.int .i64 aseg) ∧ w5.cell? ⟨w.heap.size, 1, none⟩ = some (.slice awa alw awc) ∧ w5.cell? ⟨w.heap.size, 2, none⟩ = some (.slice aka alk akc) ∧ w5.cell? ⟨w.heap.size, 3, none⟩ = some (.slice ava alv avc) ∧ w5.cell? ⟨w.heap.size, 4, none⟩ = some (.slice aca alc acc) ∧ w5.cell? ⟨w.heap.size, 5, none⟩ = some (.int .u64 alaid) ∧ w5.cell? ⟨w4.heap.size, 0, none⟩ = some (.int .i64 x1) ∧ w5.cell? ⟨w4.heap.size, 1, none⟩ = some (.int .i64 x2) := by refine ⟨?_, ?_, ?_, ?_, ?_, ?_, ?_, ?_⟩ <;> (refine (hb5.cell ?_).trans ?_ <;> first | (first | (with_reducible assumption) | omega | (simp only [World.size_alloc, World.size_setCell, World.size_drew, World.heap_drewN] <;> omega) | (simp <;> omega)) | (first | (with_reducible assumption) | ((try simp (disch := first | omega | (simp only [World.size_alloc, World.size_setCell, World.size_drew, World.heap_drewN] <;> omega) | fail) only [World.cell?_alloc_past, World.cell?_alloc_at, World.frozen?_alloc_past, World.frozen?_alloc_at, World.frozen?_setCell, World.cell?_drew, World.frozen?_drew]) <;> first | (with_reducible assumption) | rfl)))
  have all_z : w.heap.size < w5.heap.size ∧ w4.heap.size < w5.heap.size := by refine ⟨?_, ?_⟩ <;> (omega)
  clear c_a0 c_a1 c_a2 c_a3 c_a4 c_a5 z_a
  obtain ⟨c_a0, c_a1, c_a2, c_a3, c_a4, c_a5, c_p0, c_p1⟩ := all_c
  try clear all_c
  obtain ⟨z_a, z_p⟩ := all_z
  try clear all_z
  have hB5 : Below w.heap.size w w5 := by (repeat (first | (with_reducible exact Below.refl _ _) | (with_reducible assumption) | (with_reducible exact Hid.out (by with_reducible assumption)) | (with_reducible refine Below.alloc ?_ ?_ _) | (with_reducible refine Below.setCell ?_ ?_ _) | (with_reducible refine below_drewN ?_ _) | (with_reducible refine Below.drew ?_) | (with_reducible refine below_via (by with_reducible assumption) ?_ ?_) | (first | (with_reducible assumption) | omega | (simp only [World.size_alloc, World.size_setCell, World.size_drew, World.heap_drewN] <;> omega) | (simp <;> omega))))
  go_wp2
  go_ret
  exact ⟨rfl, by (repeat (first | (with_reducible exact Below.refl _ _) | (with_reducible assumption) | (with_reducible exact Hid.out (by with_reducible assumption)) | (with_reducible refine Below.alloc ?_ ?_ _) | (with_reducible refine Below.setCell ?_ ?_ _) | (with_reducible refine below_drewN ?_ _) | (with_reducible refine Below.drew ?_) | (with_reducible refine below_via (by with_reducible assumption) ?_ ?_) | (first | (with_reducible assumption) | omega | (simp only [World.size_alloc, World.size_setCell, World.size_drew, World.heap_drewN] <;> omega) | (simp <;> omega))))⟩

set_option maxRecDepth 100000 in
set_option maxHeartbeats 1000000 in
theorem MI_diff2 (aseg : Int) (awa aka ava aca : Option Addr) (awc akc avc acc alw alk alv alc : Nat) (alaid : Int) (bseg : Int) (bwa bka bva bca : Option Addr) (bwc bkc bvc bcc blw blk blv blc : Nat) (blaid : Int) (at_ : Int) (w : World) (x1 x2 e1 y2 f1 : Int) (F Tt : Nat) (Q : Int) (hs : 4 ≤ aseg) (h0 : 0 ≤ at_) (ha : at_ < (alk : Int)) (hq : at_.tdiv aseg = Q) (hQ : (F : Int) ≤ Q ∧ Q < Tt ∧ Q ≤ 65536) (hx : x2 ≠ y2) (G1 : Hid (∀ W, Calls Try.prog 10 #[.agg #[.int .i64 aseg, .slice awa alw awc, .slice aka alk akc, .slice ava alv avc, .slice aca alc acc, .int .u64 alaid], .int .i64 600] W (AnsB W (.bool false)))) (G2 : Hid (∀ W, Calls Try.prog 10 #[.agg #[.int .i64 bseg, .slice bwa blw bwc, .slice bka blk bkc, .slice bva blv bvc, .slice bca blc bcc, .int .u64 blaid], .int .i64 600] W (AnsB W (.bool false))))
    (TU : Hid (∀ W, Below w.heap.size w W → Calls Try.prog 13 #[.agg #[.int .i64 aseg, .slice awa alw awc, .slice aka alk akc, .slice ava alv avc, .slice aca alc acc, .int .u64 alaid], .agg #[.int .i64 bseg, .slice bwa blw bwc, .slice bka blk bkc, .slice bva blv bvc, .slice bca blc bcc, .int .u64 blaid]] W (AnsB W (.tuple #[.int .i64 F, .int .i64 Tt, .int .i64 0]))))
    (TA : Hid (∀ W, Below w.heap.size w W → Calls Try.prog 25 #[.agg #[.int .i64 aseg, .slice awa alw awc, .slice aka alk akc, .slice ava alv avc, .slice aca alc acc, .int .u64 alaid], .int .i64 at_] W (AnsB W (.tuple #[.agg #[.int .i64 x1, .int .i64 x2], .int .i64 e1]))))
    (TB : Hid (∀ W, Below w.heap.size w W → Calls Try.prog 25 #[.agg #[.int .i64 bseg, .slice bwa blw bwc, .slice bka blk bkc, .slice bva blv bvc, .slice bca blc bcc, .int .u64 blaid], .int .i64 at_] W (AnsB W (.tuple #[.agg #[.int .i64 x1, .int .i64 y2], .int .i64 f1])))) :
    Calls Try.prog 6 #[.agg #[.int .i64 aseg, .slice awa alw awc, .slice aka alk akc, .slice ava alv avc, .slice aca alc acc, .int .u64 alaid], .agg #[.int .i64 bseg, .slice bwa blw bwc, .slice bka blk bkc, .slice bva blv bvc, .slice bca blc bcc, .int .u64 blaid], .int .i64 at_] w (AnsB w (.bool true)) := by
  have AL := Lib.hid alive20_ok
  have hqw : IntKind.i64.wrap (at_.tdiv aseg) = Q := by rw [hq]; exact IntWalk.i64_in _ (by omega)
  have hs0 : (aseg == 0) = false := by simp; omega
  have hs1 : ¬ aseg = 0 := by omega
  obtain ⟨hQ1, hQ2, hQ3⟩ := hQ
  have g1 : (x2 == y2) = false := by simpa using hx
  clear hx
  go_enter Try.func6, Try.ntmps6
  go_wp2_with fail
  refine (AL.out _).mono ?_
  rintro e w1 ⟨rfl, hb1⟩
  have hz_w1 := hb1.size
  try simp only [World.size_alloc, World.size_setCell] at hz_w1
  have all_c : w1.cell? ⟨w.heap.size, 0, none⟩ = some (.int .i64 aseg) ∧ w1.cell? ⟨w.heap.size, 1, none⟩ = some (.slice awa alw awc) ∧ w1.cell? ⟨w.heap.size, 2, none⟩ = some (.slice aka alk akc) ∧ w1.cell? ⟨w.heap.size, 3, none⟩ = some (.slice ava alv avc) ∧ w1.cell? ⟨w.heap.size, 4, none⟩ = some (.slice aca alc acc) ∧ w1.cell? ⟨w.heap.size, 5, none⟩ = some (.int .u64 alaid) ∧ w1.cell? ⟨w.heap.size + 1, 0, none⟩ = some (.int .i64 bseg) ∧ w1.cell? ⟨w.heap.size + 1, 1, none⟩ = some (.slice bwa blw bwc) ∧ w1.cell? ⟨w.heap.size + 1, 2, none⟩ = some (.slice bka blk bkc) ∧ w1.cell? ⟨w.heap.size + 1, 3, none⟩ = some (.slice bva blv bvc) ∧ w1.cell? ⟨w.heap.size + 1, 4, none⟩ = some (.slice bca blc bcc) ∧ w1.cell? ⟨w.heap.size + 1, 5, none⟩ = some (.int .u64 blaid) := by refine ⟨?_, ?_, ?_, ?_, ?_, ?_, ?_, ?_, ?_, ?_, ?_, ?_⟩ <;> (refine (hb1.cell ?_).trans ?_ <;> first | (first | (with_reducible assumption) | omega | (simp only [World.size_alloc, World.size_setCell, World.size_drew, World.heap_drewN] <;> omega) | (simp <;> omega)) | (first | (with_reducible assumption) | ((try simp (disch := first | omega | (simp only [World.size_alloc, World.size_setCell, World.size_drew, World.heap_drewN] <;> omega) | fail) only [World.cell?_alloc_past, World.cell?_alloc_at, World.frozen?_alloc_past, World.frozen?_alloc_at, World.frozen?_setCell, World.cell?_drew, World.frozen?_drew]) <;> first | (with_reducible assumption) | rfl)))
  have all_z : w.heap.size < w1.heap.size ∧ w.heap.size + 1 < w1.heap.size := by refine ⟨?_, ?_⟩ <;> (omega)
  obtain ⟨c_a0, c_a1, c_a2, c_a3, c_a4, c_a5, c_b0, c_b1, c_b2, c_b3, c_b4, c_b5⟩ := all_c
  try clear all_c
  obtain ⟨z_a, z_b⟩ := all_z
  try clear all_z
  have hB1 : Below w.heap.size w w1 := by (repeat (first | (with_reducible exact Below.refl _ _) | (with_reducible assumption) | (with_reducible exact Hid.out (by with_reducible assumption)) | (with_reducible refine Below.alloc ?_ ?_ _) | (with_reducible refine Below.setCell ?_ ?_ _) | (with_reducible refine below_drewN ?_ _) | (with_reducible refine Below.drew ?_) | (with_reducible refine below_via (by with_reducible assumption) ?_ ?_) | (first | (with_reducible assumption) | omega | (simp only [World.size_alloc, World.size_setCell, World.size_drew, World.heap_drewN] <;> omega) | (simp <;> omega))))
  go_wp2_with fail
  refine (G1.out _).mono ?_
  rintro e v1 ⟨rfl, hv1⟩
  have hz_v1 := hv1.size
  try simp only [World.size_alloc, World.size_setCell] at hz_v1
  have all_c : v1.cell? ⟨w.heap.size, 0, none⟩ = some (.int .i64 aseg) ∧ v1.cell? ⟨w.heap.size, 1, none⟩ = some (.slice awa alw awc) ∧ v1.cell? ⟨w.heap.size, 2, none⟩ = some (.slice aka alk akc) ∧ v1.cell? ⟨w.heap.size, 3, none⟩ = some (.slice ava alv avc) ∧ v1.cell? ⟨w.heap.size, 4, none⟩ = some (.slice aca alc acc) ∧ v1.cell? ⟨w.heap.size, 5, none⟩ = some (.int .u64 alaid) ∧ v1.cell? ⟨w.heap.size + 1, 0, none⟩ = some (.int .i64 bseg) ∧ v1.cell? ⟨w.heap.size + 1, 1, none⟩ = some (.slice bwa blw bwc) ∧ v1.cell? ⟨w.heap.size + 1, 2, none⟩ = some (.slice bka blk bkc) ∧ v1.cell? ⟨w.heap.size + 1, 3, none⟩ = some (.slice bva blv bvc) ∧ v1.cell? ⟨w.heap.size + 1, 4, none⟩ = some (.slice bca blc bcc) ∧ v1.cell? ⟨w.heap.size + 1, 5, none⟩ = some (.int .u64 blaid) := by refine ⟨?_, ?_, ?_, ?_, ?_, ?_, ?_, ?_, ?_, ?_, ?_, ?_⟩ <;> (refine (hv1.cell ?_).trans ?_ <;> first | (first | (with_reducible assumption) | omega | (simp only [World.size_alloc, World.size_setCell, World.size_drew, World.heap_drewN] <;> omega) | (simp <;> omega)) | (first | (with_reducible assumption) | ((try simp (disch := first | omega | (simp only [World.size_alloc, World.size_setCell, World.size_drew, World.heap_drewN] <;> omega) | fail) only [World.cell?_alloc_past, World.cell?_alloc_at, World.frozen?_alloc_past, World.frozen?_alloc_at, World.frozen?_setCell, World.cell?_drew, World.frozen?_drew]) <;> first | (with_reducible assumption) | rfl)))
  have all_z : w.heap.size < v1.heap.size ∧ w.heap.size + 1 < v1.heap.size := by refine ⟨?_, ?_⟩ <;> (omega)
  clear c_a0 c_a1 c_a2 c_a3 c_a4 c_a5 c_b0 c_b1 c_b2 c_b3 c_b4 c_b5 z_a z_b
  obtain ⟨c_a0, c_a1, c_a2, c_a3, c_a4, c_a5, c_b0, c_b1, c_b2, c_b3, c_b4, c_b5⟩ := all_c
  try clear all_c
  obtain ⟨z_a, z_b⟩ := all_z
  try clear all_z
  have hV1 : Below w.heap.size w v1 := by (repeat (first | (with_reducible exact Below.refl _ _) | (with_reducible assumption) | (with_reducible exact Hid.out (by with_reducible assumption)) | (with_reducible refine Below.alloc ?_ ?_ _) | (with_reducible refine Below.setCell ?_ ?_ _) | (with_reducible refine below_drewN ?_ _) | (with_reducible refine Below.drew ?_) | (with_reducible refine below_via (by with_reducible assumption) ?_ ?_) | (first | (with_reducible assumption) | omega | (simp only [World.size_alloc, World.size_setCell, World.size_drew, World.heap_drewN] <;> omega) | (simp <;> omega))))
  go_wp2_with fail
  refine (G2.out _).mono ?_
  rintro e v2 ⟨rfl, hv2⟩
  have hz_v2 := hv2.size
  try simp only [World.size_alloc, World.size_setCell] at hz_v2
  have all_c : v2.cell? ⟨w.heap.size, 0, none⟩ = some (.int .i64 aseg) ∧ v2.cell? ⟨w.heap.size, 1, none⟩ = some (.slice awa alw awc) ∧ v2.cell? ⟨w.heap.size, 2, none⟩ = some (.slice aka alk akc) ∧ v2.cell? ⟨w.heap.size, 3, none⟩ = some (.slice ava alv avc) ∧ v2.cell? ⟨w.heap.size, 4, none⟩ = some (.slice aca alc acc) ∧ v2.cell? ⟨w.heap.size, 5, none⟩ = some (.int .u64 alaid) ∧ v2.cell? ⟨w.heap.size + 1, 0, none⟩ = some (.int .i64 bseg) ∧ v2.cell? ⟨w.heap.size + 1, 1, none⟩ = some (.slice bwa blw bwc) ∧ v2.cell? ⟨w.heap.size + 1, 2, none⟩ = some (.slice bka blk bkc) ∧ v2.cell? ⟨w.heap.size + 1, 3, none⟩ = some (.slice bva blv bvc) ∧ v2.cell? ⟨w.heap.size + 1, 4, none⟩ = some (.slice bca blc bcc) ∧ v2.cell? ⟨w.heap.size + 1, 5, none⟩ = some (.int .u64 blaid) := by refine ⟨?_, ?_, ?_, ?_, ?_, ?_, ?_, ?_, ?_, ?_, ?_, ?_⟩ <;> (refine (hv2.cell ?_).trans ?_ <;> first | (first | (with_reducible assumption) | omega | (simp only [World.size_alloc, World.size_setCell, World.size_drew, World.heap_drewN] <;> omega) | (simp <;> omega)) | (first | (with_reducible assumption) | ((try simp (disch := first | omega | (simp only [World.size_alloc, World.size_setCell, World.size_drew, World.heap_drewN] <;> omega) | fail) only [World.cell?_alloc_past, World.cell?_alloc_at, World.frozen?_alloc_past, World.frozen?_alloc_at, World.frozen?_setCell, World.cell?_drew, World.frozen?_drew]) <;> first | (with_reducible assumption) | rfl)))
  have all_z : w.heap.size < v2.heap.size ∧ w.heap.size + 1 < v2.heap.size := by refine ⟨?_, ?_⟩ <;> (omega)
  clear c_a0 c_a1 c_a2 c_a3 c_a4 c_a5 c_b0 c_b1 c_b2 c_b3 c_b4 c_b5 z_a z_b
  obtain ⟨c_a0, c_a1, c_a2, c_a3, c_a4, c_a5, c_b0, c_b1, c_b2, c_b3, c_b4, c_b5⟩ := all_c
  try clear all_c
  obtain ⟨z_a, z_b⟩ := all_z
  try clear all_z
  have hV2 : Below w.heap.size w v2 := by (repeat (first | (with_reducible exact Below.refl _ _) | (with_reducible assumption) | (with_reducible exact Hid.out (by with_reducible assumption)) | (with_reducible refine Below.alloc ?_ ?_ _) | (with_reducible refine Below.setCell ?_ ?_ _) | (with_reducible refine below_drewN ?_ _) | (with_reducible refine Below.drew ?_) | (with_reducible refine below_via (by with_reducible assumption) ?_ ?_) | (first | (with_reducible assumption) | omega | (simp only [World.size_alloc, World.size_setCell, World.size_drew, World.heap_drewN] <;> omega) | (simp <;> omega))))
  go_wp2_with fail
  refine (TU.out _ hV2).mono ?_
  rintro e w3 ⟨rfl, hb3⟩
  have hz_w3 := hb3.size
  try simp only [World.size_alloc, World.size_setCell] at hz_w3
  have all_c : w3.cell? ⟨w.heap.size, 0, none⟩ = some (.int .i64 aseg) ∧ w3.cell? ⟨w.heap.size, 1, none⟩ = some (.slice awa alw awc) ∧ w3.cell? ⟨w.heap.size, 2, none⟩ = some (.slice aka alk akc) ∧ w3.cell? ⟨w.heap.size, 3, none⟩ = some (.slice ava alv avc) ∧ w3.cell? ⟨w.heap.size, 4, none⟩ = some (.slice aca alc acc) ∧ w3.cell? ⟨w.heap.size, 5, none⟩ = some (.int .u64 alaid) ∧ w3.cell? ⟨w.heap.size + 1, 0, none⟩ = some (.int .i64 bseg) ∧ w3.cell? ⟨w.heap.size + 1, 1, none⟩ = some (.slice bwa blw bwc) ∧ w3.cell? ⟨w.heap.size + 1, 2, none⟩ = some (.slice bka blk bkc) ∧ w3.cell? ⟨w.heap.size + 1, 3, none⟩ = some (.slice bva blv bvc) ∧ w3.cell? ⟨w.heap.size + 1, 4, none⟩ = some (.slice bca blc bcc) ∧ w3.cell? ⟨w.heap.size + 1, 5, none⟩ = some (.int .u64 blaid) := by refine ⟨?_, ?_, ?_, ?_, ?_, ?_, ?_, ?_, ?_, ?_, ?_, ?_⟩ <;> (refine (hb3.cell ?_).trans ?_ <;> first | (first | (with_reducible assumption) | omega | (simp only [World.size_alloc, World.size_setCell, World.size_drew, World.heap_drewN] <;> omega) | (simp <;> omega)) | (first | (with_reducible assumption) | ((try simp (disch := first | omega | (simp only [World.size_alloc, World.size_setCell, World.size_drew, World.heap_drewN] <;> omega) | fail) only [World.cell?_alloc_past, World.cell?_alloc_at, World.frozen?_alloc_past, World.frozen?_alloc_at, World.frozen?_setCell, World.cell?_drew, World.frozen?_drew]) <;> first | (with_reducible assumption) | rfl)))
  have all_z : w.heap.size < w3.heap.size ∧ w.heap.size + 1 < w3.heap.size := by refine ⟨?_, ?_⟩ <;> (omega)
  clear c_a0 c_a1 c_a2 c_a3 c_a4 c_a5 c_b0 c_b1 c_b2 c_b3 c_b4 c_b5 z_a z_b
  obtain ⟨c_a0, c_a1, c_a2, c_a3, c_a4, c_a5, c_b0, c_b1, c_b2, c_b3, c_b4, c_b5⟩ := all_c
  try clear all_c
  obtain ⟨z_a, z_b⟩ := all_z
  try clear all_z
  have hB3 : Below w.heap.size w w3 := by (repeat (first | (with_reducible exact Below.refl _ _) | (with_reducible assumption) | (with_reducible exact Hid.out (by with_reducible assumption)) | (with_reducible refine Below.alloc ?_ ?_ _) | (with_reducible refine Below.setCell ?_ ?_ _) | (with_reducible refine below_drewN ?_ _) | (with_reducible refine Below.drew ?_) | (with_reducible refine below_via (by with_reducible assumption) ?_ ?_) | (first | (with_reducible assumption) | omega | (simp only [World.size_alloc, World.size_setCell, World.size_drew, World.heap_drewN] <;> omega) | (simp <;> omega))))
  go_wp2_with fail
  refine (TA.out _ hB3).mono ?_
  rintro e w4 ⟨rfl, hb4⟩
  have hz_w4 := hb4.size
  try simp only [World.size_alloc, World.size_setCell] at hz_w4
  have all_c : w4.cell? ⟨w.heap.size, 0, none⟩ = some (.int .i64 aseg) ∧ w4.cell? ⟨w.heap.size, 1, none⟩ = some (.slice awa alw awc) ∧ w4.cell? ⟨w.heap.size, 2, none⟩ = some (.slice aka alk akc) ∧ w4.cell? ⟨w.heap.size, 3, none⟩ = some (.slice ava alv avc) ∧ w4.cell? ⟨w.heap.size, 4, none⟩ = some (.slice aca alc acc) ∧ w4.cell? ⟨w.heap.size, 5, none⟩ = some (.int .u64 alaid) ∧ w4.cell? ⟨w.heap.size + 1, 0, none⟩ = some (.int .i64 bseg) ∧ w4.cell? ⟨w.heap.size + 1, 1, none⟩ = some (.slice bwa blw bwc) ∧ w4.cell? ⟨w.heap.size + 1, 2, none⟩ = some (.slice bka blk bkc) ∧ w4.cell? ⟨w.heap.size + 1, 3, none⟩ = some (.slice bva blv bvc) ∧ w4.cell? ⟨w.heap.size + 1, 4, none⟩ = some (.slice bca blc bcc) ∧ w4.cell? ⟨w.heap.size + 1, 5, none⟩ = some (.int .u64 blaid) := by refine ⟨?_, ?_, ?_, ?_, ?_, ?_, ?_, ?_, ?_, ?_, ?_, ?_⟩ <;> (refine (hb4.cell ?_).trans ?_ <;> first | (first | (with_reducible assumption) | omega | (simp only [World.size_alloc, World.size_setCell, World.size_drew, World.heap_drewN] <;> omega) | (simp <;> omega)) | (first | (with_reducible assumption) | ((try simp (disch := first | omega | (simp only [World.size_alloc, World.size_setCell, World.size_drew, World.heap_drewN] <;> omega) | fail) only [World.cell?_alloc_past, World.cell?_alloc_at, World.frozen?_alloc_past, World.frozen?_alloc_at, World.frozen?_setCell, World.cell?_drew, World.frozen?_drew]) <;> first | (with_reducible assumption) | rfl)))
  have all_z : w.heap.size < w4.heap.size ∧ w.heap.size + 1 < w4.heap.size := by refine ⟨?_, ?_⟩ <;> (omega)
  clear c_a0 c_a1 c_a2 c_a3 c_a4 c_a5 c_b0 c_b1 c_b2 c_b3 c_b4 c_b5 z_a z_b
  obtain ⟨c_a0, c_a1, c_a2, c_a3, c_a4, c_a5, c_b0, c_b1, c_b2, c_b3, c_b4, c_b5⟩ := all_c
  try clear all_c
  obtain ⟨z_a, z_b⟩ := all_z
  try clear all_z
  have hB4 : Below w.heap.size w w4 := by (repeat (first | (with_reducible exact Below.refl _ _) | (with_reducible assumption) | (with_reducible exact Hid.out (by with_reducible assumption)) | (with_reducible refine Below.alloc ?_ ?_ _) | (with_reducible refine Below.setCell ?_ ?_ _) | (with_reducible refine below_drewN ?_ _) | (with_reducible refine Below.drew ?_) | (with_reducible refine below_via (by with_reducible assumption) ?_ ?_) | (first | (with_reducible assumption) | omega | (simp only [World.size_alloc, World.size_setCell, World.size_drew, World.heap_drewN] <;> omega) | (simp <;> omega))))
  go_wp2_with fail
  refine (TB.out _ (by (repeat (first | (with_reducible exact Below.refl _ _) | (with_reducible assumption) | (with_reducible exact Hid.out (by with_reducible assumption)) | (with_reducible refine Below.alloc ?_ ?_ _) | (with_reducible refine Below.setCell ?_ ?_ _) | (with_reducible refine below_drewN ?_ _) | (with_reducible refine Below.drew ?_) | (with_reducible refine below_via (by with_reducible assumption) ?_ ?_) | (first | (with_reducible assumption) | omega | (simp only [World.size_alloc, World.size_setCell, World.size_drew, World.heap_drewN] <;> omega) | (simp <;> omega)))))).mono ?_
  rintro e w5 ⟨rfl, hb5⟩
  have hz_w5 := hb5.size
  try simp only [World.size_alloc, World.size_setCell] at hz_w5
  have all_c : w5.cell? ⟨w.heap.size, 0, none⟩ = some (.int .i64 aseg) ∧ w5.cell? ⟨w.heap.size, 1, none⟩ = some (.slice awa alw awc) ∧ w5.cell? ⟨w.heap.size, 2, none⟩ = some (.slice aka alk akc) ∧ w5.cell? ⟨w.heap.size, 3, none⟩ = some (.slice ava alv avc) ∧ w5.cell? ⟨w.heap.size, 4, none⟩ = some (.slice aca alc acc) ∧ w5.cell? ⟨w.heap.size, 5, none⟩ = some (.int .u64 alaid) ∧ w5.cell? ⟨w4.heap.size, 0, none⟩ = some (.int .i64 x1) ∧ w5.cell? ⟨w4.heap.size, 1, none⟩ = some (.int .i64 x2) := by refine ⟨?_, ?_, ?_, ?_, ?_, ?_, ?_, ?_⟩ <;> (refine (hb5.cell ?_).trans ?_ <;> first | (first | (with_reducible assumption) | omega | (simp only [World.size_alloc, World.size_setCell, World.size_drew, World.heap_drewN] <;> omega) | (simp <;> omega)) | (first | (with_reducible assumption) | ((try simp (disch := first | omega | (simp only [World.size_alloc, World.size_setCell, World.size_drew, World.heap_drewN] <;> omega) | fail) only [World.cell?_alloc_past, World.cell?_alloc_at, World.frozen?_alloc_past, World.frozen?_alloc_at, World.frozen?_setCell, World.cell?_drew, World.frozen?_drew]) <;> first | (with_reducible assumption) | rfl)))
  have all_z : w.heap.size < w5.heap.size ∧ w4.heap.size < w5.heap.size := by refine ⟨?_, ?_⟩ <;> (omega)
  clear c_a0 c_a1 c_a2 c_a3 c_a4 c_a5 z_a
  obtain ⟨c_a0, c_a1, c_a2, c_a3, c_a4, c_a5, c_p0, c_p1⟩ := all_c
  try clear all_c
  obtain ⟨z_a, z_p⟩ := all_z
  try clear all_z
  have hB5 : Below w.heap.size w w5 := by (repeat (first | (with_reducible exact Below.refl _ _) | (with_reducible assumption) | (with_reducible exact Hid.out (by with_reducible assumption)) | (with_reducible refine Below.alloc ?_ ?_ _) | (with_reducible refine Below.setCell ?_ ?_ _) | (with_reducible refine below_drewN ?_ _) | (with_reducible refine Below.drew ?_) | (with_reducible refine below_via (by with_reducible assumption) ?_ ?_) | (first | (with_reducible assumption) | omega | (simp only [World.size_alloc, World.size_setCell, World.size_drew, World.heap_drewN] <;> omega) | (simp <;> omega))))
  go_wp2
  go_ret
  exact ⟨rfl, by (repeat (first | (with_reducible exact Below.refl _ _) | (with_reducible assumption) | (with_reducible exact Hid.out (by with_reducible assumption)) | (with_reducible refine Below.alloc ?_ ?_ _) | (with_reducible refine Below.setCell ?_ ?_ _) | (with_reducible refine below_drewN ?_ _) | (with_reducible refine Below.drew ?_) | (with_reducible refine below_via (by with_reducible assumption) ?_ ?_) | (first | (with_reducible assumption) | omega | (simp only [World.size_alloc, World.size_setCell, World.size_drew, World.heap_drewN] <;> omega) | (simp <;> omega))))⟩

set_option maxRecDepth 100000 in
set_option maxHeartbeats 1000000 in
theorem MI_diff3 (aseg : Int) (awa aka ava aca : Option Addr) (awc akc avc acc alw alk alv alc : Nat) (alaid : Int) (bseg : Int) (bwa bka bva bca : Option Addr) (bwc bkc bvc bcc blw blk blv blc : Nat) (blaid : Int) (at_ : Int) (w : World) (x1 x2 e1 f1 : Int) (F Tt : Nat) (Q : Int) (hs : 4 ≤ aseg) (h0 : 0 ≤ at_) (ha : at_ < (alk : Int)) (hq : at_.tdiv aseg = Q) (hQ : (F : Int) ≤ Q ∧ Q < Tt ∧ Q ≤ 65536) (hx : e1 ≠ f1) (G1 : Hid (∀ W, Calls Try.prog 10 #[.agg #[.int .i64 aseg, .slice awa alw awc, .slice aka alk akc, .slice ava alv avc, .slice aca alc acc, .int .u64 alaid], .int .i64 600] W (AnsB W (.bool false)))) (G2 : Hid (∀ W, Calls Try.prog 10 #[.agg #[.int .i64 bseg, .slice bwa blw bwc, .slice bka blk bkc, .slice bva blv bvc, .slice bca blc bcc, .int .u64 blaid], .int .i64 600] W (AnsB W (.bool false))))
    (TU : Hid (∀ W, Below w.heap.size w W → Calls Try.prog 13 #[.agg #[.int .i64 aseg, .slice awa alw awc, .slice aka alk akc, .slice ava alv avc, .slice aca alc acc, .int .u64 alaid], .agg #[.int .i64 bseg, .slice bwa blw bwc, .slice bka blk bkc, .slice bva blv bvc, .slice bca blc bcc, .int .u64 blaid]] W (AnsB W (.tuple #[.int .i64 F, .int .i64 Tt, .int .i64 0]))))
    (TA : Hid (∀ W, Below w.heap.size w W → Calls Try.prog 25 #[.agg #[.int .i64 aseg, .slice awa alw awc, .slice aka alk akc, .slice ava alv avc, .slice aca alc acc, .int .u64 alaid], .int .i64 at_] W (AnsB W (.tuple #[.agg #[.int .i64 x1, .int .i64 x2], .int .i64 e1]))))
    (TB : Hid (∀ W, Below w.heap.size w W → Calls Try.prog 25 #[.agg #[.int .i64 bseg, .slice bwa blw bwc, .slice bka blk bkc, .slice bva blv bvc, .slice bca blc bcc, .int .u64 blaid], .int .i64 at_] W (AnsB W (.tuple #[.agg #[.int .i64 x1, .int .i64 x2], .int .i64 f1])))) :
    Calls Try.prog 6 #[.agg #[.int .i64 aseg, .slice awa alw awc, .slice aka alk akc, .slice ava alv avc, .slice aca alc acc, .int .u64 alaid], .agg #[.int .i64 bseg, .slice bwa blw bwc, .slice bka blk bkc, .slice bva blv bvc, .slice bca blc bcc, .int .u64 blaid], .int .i64 at_] w (AnsB w (.bool true)) := by
  have AL := Lib.hid alive20_ok
  have hqw : IntKind.i64.wrap (at_.tdiv aseg) = Q := by rw [hq]; exact IntWalk.i64_in _ (by omega)
  have hs0 : (aseg == 0) = false := by simp; omega
  have hs1 : ¬ aseg = 0 := by omega
  obtain ⟨hQ1, hQ2, hQ3⟩ := hQ
  have g1 : (e1 != f1) = true := by simpa using hx
  clear hx
  go_enter Try.func6, Try.ntmps6
  go_wp2_with fail
  refine (AL.out _).mono ?_
  rintro e w1 ⟨rfl, hb1⟩
  have hz_w1 := hb1.size
  try simp only [World.size_alloc, World.size_setCell] at hz_w1
  have all_c : w1.cell? ⟨w.heap.size, 0, none⟩ = some (.int .i64 aseg) ∧ w1.cell? ⟨w.heap.size, 1, none⟩ = some (.slice awa alw awc) ∧ w1.cell? ⟨w.heap.size, 2, none⟩ = some (.slice aka alk akc) ∧ w1.cell? ⟨w.heap.size, 3, none⟩ = some (.slice ava alv avc) ∧ w1.cell? ⟨w.heap.size, 4, none⟩ = some (.slice aca alc acc) ∧ w1.cell? ⟨w.heap.size, 5, none⟩ = some (.int .u64 alaid) ∧ w1.cell? ⟨w.heap.size + 1, 0, none⟩ = some (.int .i64 bseg) ∧ w1.cell? ⟨w.heap.size + 1, 1, none⟩ = some (.slice bwa blw bwc) ∧ w1.cell? ⟨w.heap.size + 1, 2, none⟩ = some (.slice bka blk bkc) ∧ w1.cell? ⟨w.heap.size + 1, 3, none⟩ = some (.slice bva blv bvc) ∧ w1.cell? ⟨w.heap.size + 1, 4, none⟩ = some (.slice bca blc bcc) ∧ w1.cell? ⟨w.heap.size + 1, 5, none⟩ = some (.int .u64 blaid) := by refine ⟨?_, ?_, ?_, ?_, ?_, ?_, ?_, ?_, ?_, ?_, ?_, ?_⟩ <;> (refine (hb1.cell ?_).trans ?_ <;> first | (first | (with_reducible assumption) | omega | (simp only [World.size_alloc, World.size_setCell, World.size_drew, World.heap_drewN] <;> omega) | (simp <;> omega)) | (first | (with_reducible assumption) | ((try simp (disch := first | omega | (simp only [World.size_alloc, World.size_setCell, World.size_drew, World.heap_drewN] <;> omega) | fail) only [World.cell?_alloc_past, World.cell?_alloc_at, World.frozen?_alloc_past, World.frozen?_alloc_at, World.frozen?_setCell, World.cell?_drew, World.frozen?_drew]) <;> first | (with_reducible assumption) | rfl)))
  have all_z : w.heap.size < w1.heap.size ∧ w.heap.size + 1 < w1.heap.size := by refine ⟨?_, ?_⟩ <;> (omega)
  obtain ⟨c_a0, c_a1, c_a2, c_a3, c_a4, c_a5, c_b0, c_b1, c_b2, c_b3, c_b4, c_b5⟩ := all_c
  try clear all_c
  obtain ⟨z_a, z_b⟩ := all_z
  try clear all_z
  have hB1 : Below w.heap.size w w1 := by (repeat (first | (with_reducible exact Below.refl _ _) | (with_reducible assumption) | (with_reducible exact Hid.out (by with_reducible assumption)) | (with_reducible refine Below.alloc ?_ ?_ _) | (with_reducible refine Below.setCell ?_ ?_ _) | (with_reducible refine below_drewN ?_ _) | (with_reducible refine Below.drew ?_) | (with_reducible refine below_via (by with_reducible assumption) ?_ ?_) | (first | (with_reducible assumption) | omega | (simp only [World.size_alloc, World.size_setCell, World.size_drew, World.heap_drewN] <;> omega) | (simp <;> omega))))
  go_wp2_with fail
  refine (G1.out _).mono ?_
  rintro e v1 ⟨rfl, hv1⟩
  have hz_v1 := hv1.size
  try simp only [World.size_alloc, World.size_setCell] at hz_v1
  have all_c : v1.cell? ⟨w.heap.size, 0, none⟩ = some (.int .i64 aseg) ∧ v1.cell? ⟨w.heap.size, 1, none⟩ = some (.slice awa alw awc) ∧ v1.cell? ⟨w.heap.size, 2, none⟩ = some (.slice aka alk akc) ∧ v1.cell? ⟨w.heap.size, 3, none⟩ = some (.slice ava alv avc) ∧ v1.cell? ⟨w.heap.size, 4, none⟩ = some (.slice aca alc acc) ∧ v1.cell? ⟨w.heap.size, 5, none⟩ = some (.int .u64 alaid) ∧ v1.cell? ⟨w.heap.size + 1, 0, none⟩ = some (.int .i64 bseg) ∧ v1.cell? ⟨w.heap.size + 1, 1, none⟩ = some (.slice bwa blw bwc) ∧ v1.cell? ⟨w.heap.size + 1, 2, none⟩ = some (.slice bka blk bkc) ∧ v1.cell? ⟨w.heap.size + 1, 3, none⟩ = some (.slice bva blv bvc) ∧ v1.cell? ⟨w.heap.size + 1, 4, none⟩ = some (.slice bca blc bcc) ∧ v1.cell? ⟨w.heap.size + 1, 5, none⟩ = some (.int .u64 blaid) := by refine ⟨?_, ?_, ?_, ?_, ?_, ?_, ?_, ?_, ?_, ?_, ?_, ?_⟩ <;> (refine (hv1.cell ?_).trans ?_ <;> first | (first | (with_reducible assumption) | omega | (simp only [World.size_alloc, World.size_setCell, World.size_drew, World.heap_drewN] <;> omega) | (simp <;> omega)) | (first | (with_reducible assumption) | ((try simp (disch := first | omega | (simp only [World.size_alloc, World.size_setCell, World.size_drew, World.heap_drewN] <;> omega) | fail) only [World.cell?_alloc_past, World.cell?_alloc_at, World.frozen?_alloc_past, World.frozen?_alloc_at, World.frozen?_setCell, World.cell?_drew, World.frozen?_drew]) <;> first | (with_reducible assumption) | rfl)))
  have all_z : w.heap.size < v1.heap.size ∧ w.heap.size + 1 < v1.heap.size := by refine ⟨?_, ?_⟩ <;> (omega)
  clear c_a0 c_a1 c_a2 c_a3 c_a4 c_a5 c_b0 c_b1 c_b2 c_b3 c_b4 c_b5 z_a z_b
  obtain ⟨c_a0, c_a1, c_a2, c_a3, c_a4, c_a5, c_b0, c_b1, c_b2, c_b3, c_b4, c_b5⟩ := all_c
  try clear all_c
  obtain ⟨z_a, z_b⟩ := all_z
  try clear all_z
  have hV1 : Below w.heap.size w v1 := by (repeat (first | (with_reducible exact Below.refl _ _) | (with_reducible assumption) | (with_reducible exact Hid.out (by with_reducible assumption)) | (with_reducible refine Below.alloc ?_ ?_ _) | (with_reducible refine Below.setCell ?_ ?_ _) | (with_reducible refine below_drewN ?_ _) | (with_reducible refine Below.drew ?_) | (with_reducible refine below_via (by with_reducible assumption) ?_ ?_) | (first | (with_reducible assumption) | omega | (simp only [World.size_alloc, World.size_setCell, World.size_drew, World.heap_drewN] <;> omega) | (simp <;> omega))))
  go_wp2_with fail
  refine (G2.out _).mono ?_
  rintro e v2 ⟨rfl, hv2⟩
  have hz_v2 := hv2.size
  try simp only [World.size_alloc, World.size_setCell] at hz_v2
  have all_c : v2.cell? ⟨w.heap.size, 0, none⟩ = some (.int .i64 aseg) ∧ v2.cell? ⟨w.heap.size, 1, none⟩ = some (.slice awa alw awc) ∧ v2.cell? ⟨w.heap.size, 2, none⟩ = some (.slice aka alk akc) ∧ v2.cell? ⟨w.heap.size, 3, none⟩ = some (.slice ava alv avc) ∧ v2.cell? ⟨w.heap.size, 4, none⟩ = some (.slice aca alc acc) ∧ v2.cell? ⟨w.heap.size, 5, none⟩ = some (.int .u64 alaid) ∧ v2.cell? ⟨w.heap.size + 1, 0, none⟩ = some (.int .i64 bseg) ∧ v2.cell? ⟨w.heap.size + 1, 1, none⟩ = some (.slice bwa blw bwc) ∧ v2.cell? ⟨w.heap.size + 1, 2, none⟩ = some (.slice bka blk bkc) ∧ v2.cell? ⟨w.heap.size + 1, 3, none⟩ = some (.slice bva blv bvc) ∧ v2.cell? ⟨w.heap.size + 1, 4, none⟩ = some (.slice bca blc bcc) ∧ v2.cell? ⟨w.heap.size + 1, 5, none⟩ = some (.int .u64 blaid) := by refine ⟨?_, ?_, ?_, ?_, ?_, ?_, ?_, ?_, ?_, ?_, ?_, ?_⟩ <;> (refine (hv2.cell ?_).trans ?_ <;> first | (first | (with_reducible assumption) | omega | (simp only [World.size_alloc, World.size_setCell, World.size_drew, World.heap_drewN] <;> omega) | (simp <;> omega)) | (first | (with_reducible assumption) | ((try simp (disch := first | omega | (simp only [World.size_alloc, World.size_setCell, World.size_drew, World.heap_drewN] <;> omega) | fail) only [World.cell?_alloc_past, World.cell?_alloc_at, World.frozen?_alloc_past, World.frozen?_alloc_at, World.frozen?_setCell, World.cell?_drew, World.frozen?_drew]) <;> first | (with_reducible assumption) | rfl)))
  have all_z : w.heap.size < v2.heap.size ∧ w.heap.size + 1 < v2.heap.size := by refine ⟨?_, ?_⟩ <;> (omega)
  clear c_a0 c_a1 c_a2 c_a3 c_a4 c_a5 c_b0 c_b1 c_b2 c_b3 c_b4 c_b5 z_a z_b
  obtain ⟨c_a0, c_a1, c_a2, c_a3, c_a4, c_a5, c_b0, c_b1, c_b2, c_b3, c_b4, c_b5⟩ := all_c
  try clear all_c
  obtain ⟨z_a, z_b⟩ := all_z
  try clear all_z
  have hV2 : Below w.heap.size w v2 := by (repeat (first | (with_reducible exact Below.refl _ _) | (with_reducible assumption) | (with_reducible exact Hid.out (by with_reducible assumption)) | (with_reducible refine Below.alloc ?_ ?_ _) | (with_reducible refine Below.setCell ?_ ?_ _) | (with_reducible refine below_drewN ?_ _) | (with_reducible refine Below.drew ?_) | (with_reducible refine below_via (by with_reducible assumption) ?_ ?_) | (first | (with_reducible assumption) | omega | (simp only [World.size_alloc, World.size_setCell, World.size_drew, World.heap_drewN] <;> omega) | (simp <;> omega))))
  go_wp2_with fail
  refine (TU.out _ hV2).mono ?_
  rintro e w3 ⟨rfl, hb3⟩
  have hz_w3 := hb3.size
  try simp only [World.size_alloc, World.size_setCell] at hz_w3
  have all_c : w3.cell? ⟨w.heap.size, 0, none⟩ = some (.int .i64 aseg) ∧ w3.cell? ⟨w.heap.size, 1, none⟩ = some (.slice awa alw awc) ∧ w3.cell? ⟨w.heap.size, 2, none⟩ = some (.slice aka alk akc) ∧ w3.cell? ⟨w.heap.size, 3, none⟩ = some (.slice ava alv avc) ∧ w3.cell? ⟨w.heap.size, 4, none⟩ = some (.slice aca alc acc) ∧ w3.cell? ⟨w.heap.size, 5, none⟩ = some (.int .u64 alaid) ∧ w3.cell? ⟨w.heap.size + 1, 0, none⟩ = some (.int .i64 bseg) ∧ w3.cell? ⟨w.heap.size + 1, 1, none⟩ = some (.slice bwa blw bwc) ∧ w3.cell? ⟨w.heap.size + 1, 2, none⟩ = some (.slice bka blk bkc) ∧ w3.cell? ⟨w.heap.size + 1, 3, none⟩ = some (.slice bva blv bvc) ∧ w3.cell? ⟨w.heap.size + 1, 4, none⟩ = some (.slice bca blc bcc) ∧ w3.cell? ⟨w.heap.size + 1, 5, none⟩ = some (.int .u64 blaid) := by refine ⟨?_, ?_, ?_, ?_, ?_, ?_, ?_, ?_, ?_, ?_, ?_, ?_⟩ <;> (refine (hb3.cell ?_).trans ?_ <;> first | (first | (with_reducible assumption) | omega | (simp only [World.size_alloc, World.size_setCell, World.size_drew, World.heap_drewN] <;> omega) | (simp <;> omega)) | (first | (with_reducible assumption) | ((try simp (disch := first | omega | (simp only [World.size_alloc, World.size_setCell, World.size_drew, World.heap_drewN] <;> omega) | fail) only [World.cell?_alloc_past, World.cell?_alloc_at, World.frozen?_alloc_past, World.frozen?_alloc_at, World.frozen?_setCell, World.cell?_drew, World.frozen?_drew]) <;> first | (with_reducible assumption) | rfl)))
  have all_z : w.heap.size < w3.heap.size ∧ w.heap.size + 1 < w3.heap.size := by refine ⟨?_, ?_⟩ <;> (omega)
  clear c_a0 c_a1 c_a2 c_a3 c_a4 c_a5 c_b0 c_b1 c_b2 c_b3 c_b4 c_b5 z_a z_b
  obtain ⟨c_a0, c_a1, c_a2, c_a3, c_a4, c_a5, c_b0, c_b1, c_b2, c_b3, c_b4, c_b5⟩ := all_c
  try clear all_c
  obtain ⟨z_a, z_b⟩ := all_z
  try clear all_z
  have hB3 : Below w.heap.size w w3 := by (repeat (first | (with_reducible exact Below.refl _ _) | (with_reducible assumption) | (with_reducible exact Hid.out (by with_reducible assumption)) | (with_reducible refine Below.alloc ?_ ?_ _) | (with_reducible refine Below.setCell ?_ ?_ _) | (with_reducible refine below_drewN ?_ _) | (with_reducible refine Below.drew ?_) | (with_reducible refine below_via (by with_reducible assumption) ?_ ?_) | (first | (with_reducible assumption) | omega | (simp only [World.size_alloc, World.size_setCell, World.size_drew, World.heap_drewN] <;> omega) | (simp <;> omega))))
  go_wp2_with fail
  refine (TA.out _ hB3).mono ?_
  rintro e w4 ⟨rfl, hb4⟩
  have hz_w4 := hb4.size
  try simp only [World.size_alloc, World.size_setCell] at hz_w4
  have all_c : w4.cell? ⟨w.heap.size, 0, none⟩ = some (.int .i64 aseg) ∧ w4.cell? ⟨w.heap.size, 1, none⟩ = some (.slice awa alw awc) ∧ w4.cell? ⟨w.heap.size, 2, none⟩ = some (.slice aka alk akc) ∧ w4.cell? ⟨w.heap.size, 3, none⟩ = some (.slice ava alv avc) ∧ w4.cell? ⟨w.heap.size, 4, none⟩ = some (.slice aca alc acc) ∧ w4.cell? ⟨w.heap.size, 5, none⟩ = some (.int .u64 alaid) ∧ w4.cell? ⟨w.heap.size + 1, 0, none⟩ = some (.int .i64 bseg) ∧ w4.cell? ⟨w.heap.size + 1, 1, none⟩ = some (.slice bwa blw bwc) ∧ w4.cell? ⟨w.heap.size + 1, 2, none⟩ = some (.slice bka blk bkc) ∧ w4.cell? ⟨w.heap.size + 1, 3, none⟩ = some (.slice bva blv bvc) ∧ w4.cell? ⟨w.heap.size + 1, 4, none⟩ = some (.slice bca blc bcc) ∧ w4.cell? ⟨w.heap.size + 1, 5, none⟩ = some (.int .u64 blaid) := by refine ⟨?_, ?_, ?_, ?_, ?_, ?_, ?_, ?_, ?_, ?_, ?_, ?_⟩ <;> (refine (hb4.cell ?_).trans ?_ <;> first | (first | (with_reducible assumption) | omega | (simp only [World.size_alloc, World.size_setCell, World.size_drew, World.heap_drewN] <;> omega) | (simp <;> omega)) | (first | (with_reducible assumption) | ((try simp (disch := first | omega | (simp only [World.size_alloc, World.size_setCell, World.size_drew, World.heap_drewN] <;> omega) | fail) only [World.cell?_alloc_past, World.cell?_alloc_at, World.frozen?_alloc_past, World.frozen?_alloc_at, World.frozen?_setCell, World.cell?_drew, World.frozen?_drew]) <;> first | (with_reducible assumption) | rfl)))
  have all_z : w.heap.size < w4.heap.size ∧ w.heap.size + 1 < w4.heap.size := by refine ⟨?_, ?_⟩ <;> (omega)
  clear c_a0 c_a1 c_a2 c_a3 c_a4 c_a5 c_b0 c_b1 c_b2 c_b3 c_b4 c_b5 z_a z_b
  obtain ⟨c_a0, c_a1, c_a2, c_a3, c_a4, c_a5, c_b0, c_b1, c_b2, c_b3, c_b4, c_b5⟩ := all_c
  try clear all_c
  obtain ⟨z_a, z_b⟩ := all_z
  try clear all_z
  have hB4 : Below w.heap.size w w4 := by (repeat (first | (with_reducible exact Below.refl _ _) | (with_reducible assumption) | (with_reducible exact Hid.out (by with_reducible assumption)) | (with_reducible refine Below.alloc ?_ ?_ _) | (with_reducible refine Below.setCell ?_ ?_ _) | (with_reducible refine below_drewN ?_ _) | (with_reducible refine Below.drew ?_) | (with_reducible refine below_via (by with_reducible assumption) ?_ ?_) | (first | (with_reducible assumption) | omega | (simp only [World.size_alloc, World.size_setCell, World.size_drew, World.heap_drewN] <;> omega) | (simp <;> omega))))
  go_wp2_with fail
  refine (TB.out _ (by (repeat (first | (with_reducible exact Below.refl _ _) | (with_reducible assumption) | (with_reducible exact Hid.out (by with_reducible assumption)) | (with_reducible refine Below.alloc ?_ ?_ _) | (with_reducible refine Below.setCell ?_ ?_ _) | (with_reducible refine below_drewN ?_ _) | (with_reducible refine Below.drew ?_) | (with_reducible refine below_via (by with_reducible assumption) ?_ ?_) | (first | (with_reducible assumption) | omega | (simp only [World.size_alloc, World.size_setCell, World.size_drew, World.heap_drewN] <;> omega) | (simp <;> omega)))))).mono ?_
  rintro e w5 ⟨rfl, hb5⟩
  have hz_w5 := hb5.size
  try simp only [World.size_alloc, World.size_setCell] at hz_w5
  have all_c : w5.cell? ⟨w.heap.size, 0, none⟩ = some (.int .i64 aseg) ∧ w5.cell? ⟨w.heap.size, 1, none⟩ = some (.slice awa alw awc) ∧ w5.cell? ⟨w.heap.size, 2, none⟩ = some (.slice aka alk akc) ∧ w5.cell? ⟨w.heap.size, 3, none⟩ = some (.slice ava alv avc) ∧ w5.cell? ⟨w.heap.size, 4, none⟩ = some (.slice aca alc acc) ∧ w5.cell? ⟨w.heap.size, 5, none⟩ = some (.int .u64 alaid) ∧ w5.cell? ⟨w4.heap.size, 0, none⟩ = some (.int .i64 x1) ∧ w5.cell? ⟨w4.heap.size, 1, none⟩ = some (.int .i64 x2) := by refine ⟨?_, ?_, ?_, ?_, ?_, ?_, ?_, ?_⟩ <;> (refine (hb5.cell ?_).trans ?_ <;> first | (first | (with_reducible assumption) | omega | (simp only [World.size_alloc, World.size_setCell, World.size_drew, World.heap_drewN] <;> omega) | (simp <;> omega)) | (first | (with_reducible assumption) | ((try simp (disch := first | omega | (simp only [World.size_alloc, World.size_setCell, World.size_drew, World.heap_drewN] <;> omega) | fail) only [World.cell?_alloc_past, World.cell?_alloc_at, World.frozen?_alloc_past, World.frozen?_alloc_at, World.frozen?_setCell, World.cell?_drew, World.frozen?_drew]) <;> first | (with_reducible assumption) | rfl)))
  have all_z : w.heap.size < w5.heap.size ∧ w4.heap.size < w5.heap.size := by refine ⟨?_, ?_⟩ <;> (omega)
  clear c_a0 c_a1 c_a2 c_a3 c_a4 c_a5 z_a
  obtain ⟨c_a0, c_a1, c_a2, c_a3, c_a4, c_a5, c_p0, c_p1⟩ := all_c
  try clear all_c
  obtain ⟨z_a, z_p⟩ := all_z
  try clear all_z
  have hB5 : Below w.heap.size w w5 := by (repeat (first | (with_reducible exact Below.refl _ _) | (with_reducible assumption) | (with_reducible exact Hid.out (by with_reducible assumption)) | (with_reducible refine Below.alloc ?_ ?_ _) | (with_reducible refine Below.setCell ?_ ?_ _) | (with_reducible refine below_drewN ?_ _) | (with_reducible refine Below.drew ?_) | (with_reducible refine below_via (by with_reducible assumption) ?_ ?_) | (first | (with_reducible assumption) | omega | (simp only [World.size_alloc, World.size_setCell, World.size_drew, World.heap_drewN] <;> omega) | (simp <;> omega))))
  go_wp2
  go_ret
  exact ⟨rfl, by (repeat (first | (with_reducible exact Below.refl _ _) | (with_reducible assumption) | (with_reducible exact Hid.out (by with_reducible assumption)) | (with_reducible refine Below.alloc ?_ ?_ _) | (with_reducible refine Below.setCell ?_ ?_ _) | (with_reducible refine below_drewN ?_ _) | (with_reducible refine Below.drew ?_) | (with_reducible refine below_via (by with_reducible assumption) ?_ ?_) | (first | (with_reducible assumption) | omega | (simp only [World.size_alloc, World.size_setCell, World.size_drew, World.heap_drewN] <;> omega) | (simp <;> omega))))⟩

set_option maxRecDepth 100000 in
set_option maxHeartbeats 1000000 in
theorem MI_none (aseg : Int) (awa aka ava aca : Option Addr) (awc akc avc acc alw alk alv alc : Nat) (alaid : Int) (bseg : Int) (bwa bka bva bca : Option Addr) (bwc bkc bvc bcc blw blk blv blc : Nat) (blaid : Int) (at_ : Int) (w : World) (x1 x2 e1 : Int) (hs : 4 ≤ aseg) (h0 : 0 ≤ at_) (ha : at_ < (alk : Int)) (G1 : Hid (∀ W, Calls Try.prog 10 #[.agg #[.int .i64 aseg, .slice awa alw awc, .slice aka alk akc, .slice ava alv avc, .slice aca alc acc, .int .u64 alaid], .int .i64 600] W (AnsB W (.bool false)))) (G2 : Hid (∀ W, Calls Try.prog 10 #[.agg #[.int .i64 bseg, .slice bwa blw bwc, .slice bka blk bkc, .slice bva blv bvc, .slice bca blc bcc, .int .u64 blaid], .int .i64 600] W (AnsB W (.bool false))))
    (TU : Hid (∀ W, Below w.heap.size w W → Calls Try.prog 13 #[.agg #[.int .i64 aseg, .slice awa alw awc, .slice aka alk akc, .slice ava alv avc, .slice aca alc acc, .int .u64 alaid], .agg #[.int .i64 bseg, .slice bwa blw bwc, .slice bka blk bkc, .slice bva blv bvc, .slice bca blc bcc, .int .u64 blaid]] W (AnsB W (.tuple #[.int .i64 0, .int .i64 0, .int .i64 0]))))
    (TA : Hid (∀ W, Below w.heap.size w W → Calls Try.prog 25 #[.agg #[.int .i64 aseg, .slice awa alw awc, .slice aka alk akc, .slice ava alv avc, .slice aca alc acc, .int .u64 alaid], .int .i64 at_] W (AnsB W (.tuple #[.agg #[.int .i64 x1, .int .i64 x2], .int .i64 e1]))))
    (TB : Hid (∀ W, Below w.heap.size w W → Calls Try.prog 25 #[.agg #[.int .i64 bseg, .slice bwa blw bwc, .slice bka blk bkc, .slice bva blv bvc, .slice bca blc bcc, .int .u64 blaid], .int .i64 at_] W (AnsB W (.tuple #[.agg #[.int .i64 x1, .int .i64 x2], .int .i64 e1])))) :
    Calls Try.prog 6 #[.agg #[.int .i64 aseg, .slice awa alw awc, .slice aka alk akc, .slice ava alv avc, .slice aca alc acc, .int .u64 alaid], .agg #[.int .i64 bseg, .slice bwa blw bwc, .slice bka blk bkc, .slice bva blv bvc, .slice bca blc bcc, .int .u64 blaid], .int .i64 at_] w (AnsB w (.bool true)) := by
  have AL := Lib.hid alive20_ok
  go_enter Try.func6, Try.ntmps6
  go_wp2_with fail
  refine (AL.out _).mono ?_
  rintro e w1 ⟨rfl, hb1⟩
  have hz_w1 := hb1.size
  try simp only [World.size_alloc, World.size_setCell] at hz_w1
  have all_c : w1.cell? ⟨w.heap.size, 0, none⟩ = some (.int .i64 aseg) ∧ w1.cell? ⟨w.heap.size, 1, none⟩ = some (.slice awa alw awc) ∧ w1.cell? ⟨w.heap.size, 2, none⟩ = some (.slice aka alk akc) ∧ w1.cell? ⟨w.heap.size, 3, none⟩ = some (.slice ava alv avc) ∧ w1.cell? ⟨w.heap.size, 4, none⟩ = some (.slice aca alc acc) ∧ w1.cell? ⟨w.heap.size, 5, none⟩ = some (.int .u64 alaid) ∧ w1.cell? ⟨w.heap.size + 1, 0, none⟩ = some (.int .i64 bseg) ∧ w1.cell? ⟨w.heap.size + 1, 1, none⟩ = some (.slice bwa blw bwc) ∧ w1.cell? ⟨w.heap.size + 1, 2, none⟩ = some (.slice bka blk bkc) ∧ w1.cell? ⟨w.heap.size + 1, 3, none⟩ = some (.slice bva blv bvc) ∧ w1.cell? ⟨w.heap.size + 1, 4, none⟩ = some (.slice bca blc bcc) ∧ w1.cell? ⟨w.heap.size + 1, 5, none⟩ = some (.int .u64 blaid) := by refine ⟨?_, ?_, ?_, ?_, ?_, ?_, ?_, ?_, ?_, ?_, ?_, ?_⟩ <;> (refine (hb1.cell ?_).trans ?_ <;> first | (first | (with_reducible assumption) | omega | (simp only [World.size_alloc, World.size_setCell, World.size_drew, World.heap_drewN] <;> omega) | (simp <;> omega)) | (first | (with_reducible assumption) | ((try simp (disch := first | omega | (simp only [World.size_alloc, World.size_setCell, World.size_drew, World.heap_drewN] <;> omega) | fail) only [World.cell?_alloc_past, World.cell?_alloc_at, World.frozen?_alloc_past, World.frozen?_alloc_at, World.frozen?_setCell, World.cell?_drew, World.frozen?_drew]) <;> first | (with_reducible assumption) | rfl)))
  have all_z : w.heap.size < w1.heap.size ∧ w.heap.size + 1 < w1.heap.size := by refine ⟨?_, ?_⟩ <;> (omega)
  obtain ⟨c_a0, c_a1, c_a2, c_a3, c_a4, c_a5, c_b0, c_b1, c_b2, c_b3, c_b4, c_b5⟩ := all_c
  try clear all_c
  obtain ⟨z_a, z_b⟩ := all_z
  try clear all_z
  have hB1 : Below w.heap.size w w1 := by (repeat (first | (with_reducible exact Below.refl _ _) | (with_reducible assumption) | (with_reducible exact Hid.out (by with_reducible assumption)) | (with_reducible refine Below.alloc ?_ ?_ _) | (with_reducible refine Below.setCell ?_ ?_ _) | (with_reducible refine below_drewN ?_ _) | (with_reducible refine Below.drew ?_) | (with_reducible refine below_via (by with_reducible assumption) ?_ ?_) | (first | (with_reducible assumption) | omega | (simp only [World.size_alloc, World.size_setCell, World.size_drew, World.heap_drewN] <;> omega) | (simp <;> omega))))
  go_wp2_with fail
  refine (G1.out _).mono ?_
  rintro e v1 ⟨rfl, hv1⟩
  have hz_v1 := hv1.size
  try simp only [World.size_alloc, World.size_setCell] at hz_v1
  have all_c : v1.cell? ⟨w.heap.size, 0, none⟩ = some (.int .i64 aseg) ∧ v1.cell? ⟨w.heap.size, 1, none⟩ = some (.slice awa alw awc) ∧ v1.cell? ⟨w.heap.size, 2, none⟩ = some (.slice aka alk akc) ∧ v1.cell? ⟨w.heap.size, 3, none⟩ = some (.slice ava alv avc) ∧ v1.cell? ⟨w.heap.size, 4, none⟩ = some (.slice aca alc acc) ∧ v1.cell? ⟨w.heap.size, 5, none⟩ = some (.int .u64 alaid) ∧ v1.cell? ⟨w.heap.size + 1, 0, none⟩ = some (.int .i64 bseg) ∧ v1.cell? ⟨w.heap.size + 1, 1, none⟩ = some (.slice bwa blw bwc) ∧ v1.cell? ⟨w.heap.size + 1, 2, none⟩ = some (.slice bka blk bkc) ∧ v1.cell? ⟨w.heap.size + 1, 3, none⟩ = some (.slice bva blv bvc) ∧ v1.cell? ⟨w.heap.size + 1, 4, none⟩ = some (.slice bca blc bcc) ∧ v1.cell? ⟨w.heap.size + 1, 5, none⟩ = some (.int .u64 blaid) := by refine ⟨?_, ?_, ?_, ?_, ?_, ?_, ?_, ?_, ?_, ?_, ?_, ?_⟩ <;> (refine (hv1.cell ?_).trans ?_ <;> first | (first | (with_reducible assumption) | omega | (simp only [World.size_alloc, World.size_setCell, World.size_drew, World.heap_drewN] <;> omega) | (simp <;> omega)) | (first | (with_reducible assumption) | ((try simp (disch := first | omega | (simp only [World.size_alloc, World.size_setCell, World.size_drew, World.heap_drewN] <;> omega) | fail) only [World.cell?_alloc_past, World.cell?_alloc_at, World.frozen?_alloc_past, World.frozen?_alloc_at, World.frozen?_setCell, World.cell?_drew, World.frozen?_drew]) <;> first | (with_reducible assumption) | rfl)))
  have all_z : w.heap.size < v1.heap.size ∧ w.heap.size + 1 < v1.heap.size := by refine ⟨?_, ?_⟩ <;> (omega)
  clear c_a0 c_a1 c_a2 c_a3 c_a4 c_a5 c_b0 c_b1 c_b2 c_b3 c_b4 c_b5 z_a z_b
  obtain ⟨c_a0, c_a1, c_a2, c_a3, c_a4, c_a5, c_b0, c_b1, c_b2, c_b3, c_b4, c_b5⟩ := all_c
  try clear all_c
  obtain ⟨z_a, z_b⟩ := all_z
  try clear all_z
  have hV1 : Below w.heap.size w v1 := by (repeat (first | (with_reducible exact Below.refl _ _) | (with_reducible assumption) | (with_reducible exact Hid.out (by with_reducible assumption)) | (with_reducible refine Below.alloc ?_ ?_ _) | (with_reducible refine Below.setCell ?_ ?_ _) | (with_reducible refine below_drewN ?_ _) | (with_reducible refine Below.drew ?_) | (with_reducible refine below_via (by with_reducible assumption) ?_ ?_) | (first | (with_reducible assumption) | omega | (simp only [World.size_alloc, World.size_setCell, World.size_drew, World.heap_drewN] <;> omega) | (simp <;> omega))))
  go_wp2_with fail
  refine (G2.out _).mono ?_
  rintro e v2 ⟨rfl, hv2⟩
  have hz_v2 := hv2.size
  try simp only [World.size_alloc, World.size_setCell] at hz_v2
  have all_c : v2.cell? ⟨w.heap.size, 0, none⟩ = some (.int .i64 aseg) ∧ v2.cell? ⟨w.heap.size, 1, none⟩ = some (.slice awa alw awc) ∧ v2.cell? ⟨w.heap.size, 2, none⟩ = some (.slice aka alk akc) ∧ v2.cell? ⟨w.heap.size, 3, none⟩ = some (.slice ava alv avc) ∧ v2.cell? ⟨w.heap.size, 4, none⟩ = some (.slice aca alc acc) ∧ v2.cell? ⟨w.heap.size, 5, none⟩ = some (.int .u64 alaid) ∧ v2.cell? ⟨w.heap.size + 1, 0, none⟩ = some (.int .i64 bseg) ∧ v2.cell? ⟨w.heap.size + 1, 1, none⟩ = some (.slice bwa blw bwc) ∧ v2.cell? ⟨w.heap.size + 1, 2, none⟩ = some (.slice bka blk bkc) ∧ v2.cell? ⟨w.heap.size + 1, 3, none⟩ = some (.slice bva blv bvc) ∧ v2.cell? ⟨w.heap.size + 1, 4, none⟩ = some (.slice bca blc bcc) ∧ v2.cell? ⟨w.heap.size + 1, 5, none⟩ = some (.int .u64 blaid) := by refine ⟨?_, ?_, ?_, ?_, ?_, ?_, ?_, ?_, ?_, ?_, ?_, ?_⟩ <;> (refine (hv2.cell ?_).trans ?_ <;> first | (first | (with_reducible assumption) | omega | (simp only [World.size_alloc, World.size_setCell, World.size_drew, World.heap_drewN] <;> omega) | (simp <;> omega)) | (first | (with_reducible assumption) | ((try simp (disch := first | omega | (simp only [World.size_alloc, World.size_setCell, World.size_drew, World.heap_drewN] <;> omega) | fail) only [World.cell?_alloc_past, World.cell?_alloc_at, World.frozen?_alloc_past, World.frozen?_alloc_at, World.frozen?_setCell, World.cell?_drew, World.frozen?_drew]) <;> first | (with_reducible assumption) | rfl)))
  have all_z : w.heap.size < v2.heap.size ∧ w.heap.size + 1 < v2.heap.size := by refine ⟨?_, ?_⟩ <;> (omega)
  clear c_a0 c_a1 c_a2 c_a3 c_a4 c_a5 c_b0 c_b1 c_b2 c_b3 c_b4 c_b5 z_a z_b
  obtain ⟨c_a0, c_a1, c_a2, c_a3, c_a4, c_a5, c_b0, c_b1, c_b2, c_b3, c_b4, c_b5⟩ := all_c
  try clear all_c
  obtain ⟨z_a, z_b⟩ := all_z
  try clear all_z
  have hV2 : Below w.heap.size w v2 := by (repeat (first | (with_reducible exact Below.refl _ _) | (with_reducible assumption) | (with_reducible exact Hid.out (by with_reducible assumption)) | (with_reducible refine Below.alloc ?_ ?_ _) | (with_reducible refine Below.setCell ?_ ?_ _) | (with_reducible refine below_drewN ?_ _) | (with_reducible refine Below.drew ?_) | (with_reducible refine below_via (by with_reducible assumption) ?_ ?_) | (first | (with_reducible assumption) | omega | (simp only [World.size_alloc, World.size_setCell, World.size_drew, World.heap_drewN] <;> omega) | (simp <;> omega))))
  go_wp2_with fail
  refine (TU.out _ hV2).mono ?_
  rintro e w3 ⟨rfl, hb3⟩
  have hz_w3 := hb3.size
  try simp only [World.size_alloc, World.size_setCell] at hz_w3
  have all_c : w3.cell? ⟨w.heap.size, 0, none⟩ = some (.int .i64 aseg) ∧ w3.cell? ⟨w.heap.size, 1, none⟩ = some (.slice awa alw awc) ∧ w3.cell? ⟨w.heap.size, 2, none⟩ = some (.slice aka alk akc) ∧ w3.cell? ⟨w.heap.size, 3, none⟩ = some (.slice ava alv avc) ∧ w3.cell? ⟨w.heap.size, 4, none⟩ = some (.slice aca alc acc) ∧ w3.cell? ⟨w.heap.size, 5, none⟩ = some (.int .u64 alaid) ∧ w3.cell? ⟨w.heap.size + 1, 0, none⟩ = some (.int .i64 bseg) ∧ w3.cell? ⟨w.heap.size + 1, 1, none⟩ = some (.slice bwa blw bwc) ∧ w3.cell? ⟨w.heap.size + 1, 2, none⟩ = some (.slice bka blk bkc) ∧ w3.cell? ⟨w.heap.size + 1, 3, none⟩ = some (.slice bva blv bvc) ∧ w3.cell? ⟨w.heap.size + 1, 4, none⟩ = some (.slice bca blc bcc) ∧ w3.cell? ⟨w.heap.size + 1, 5, none⟩ = some (.int .u64 blaid) := by refine ⟨?_, ?_, ?_, ?_, ?_, ?_, ?_, ?_, ?_, ?_, ?_, ?_⟩ <;> (refine (hb3.cell ?_).trans ?_ <;> first | (first | (with_reducible assumption) | omega | (simp only [World.size_alloc, World.size_setCell, World.size_drew, World.heap_drewN] <;> omega) | (simp <;> omega)) | (first | (with_reducible assumption) | ((try simp (disch := first | omega | (simp only [World.size_alloc, World.size_setCell, World.size_drew, World.heap_drewN] <;> omega) | fail) only [World.cell?_alloc_past, World.cell?_alloc_at, World.frozen?_alloc_past, World.frozen?_alloc_at, World.frozen?_setCell, World.cell?_drew, World.frozen?_drew]) <;> first | (with_reducible assumption) | rfl)))
  have all_z : w.heap.size < w3.heap.size ∧ w.heap.size + 1 < w3.heap.size := by refine ⟨?_, ?_⟩ <;> (omega)
  clear c_a0 c_a1 c_a2 c_a3 c_a4 c_a5 c_b0 c_b1 c_b2 c_b3 c_b4 c_b5 z_a z_b
  obtain ⟨c_a0, c_a1, c_a2, c_a3, c_a4, c_a5, c_b0, c_b1, c_b2, c_b3, c_b4, c_b5⟩ := all_c
  try clear all_c
  obtain ⟨z_a, z_b⟩ := all_z
  try clear all_z
  have hB3 : Below w.heap.size w w3 := by (repeat (first | (with_reducible exact Below.refl _ _) | (with_reducible assumption) | (with_reducible exact Hid.out (by with_reducible assumption)) | (with_reducible refine Below.alloc ?_ ?_ _) | (with_reducible refine Below.setCell ?_ ?_ _) | (with_reducible refine below_drewN ?_ _) | (with_reducible refine Below.drew ?_) | (with_reducible refine below_via (by with_reducible assumption) ?_ ?_) | (first | (with_reducible assumption) | omega | (simp only [World.size_alloc, World.size_setCell, World.size_drew, World.heap_drewN] <;> omega) | (simp <;> omega))))
  go_wp2_with fail
  refine (TA.out _ hB3).mono ?_
  rintro e w4 ⟨rfl, hb4⟩
  have hz_w4 := hb4.size
  try simp only [World.size_alloc, World.size_setCell] at hz_w4
  have all_c : w4.cell? ⟨w.heap.size, 0, none⟩ = some (.int .i64 aseg) ∧ w4.cell? ⟨w.heap.size, 1, none⟩ = some (.slice awa alw awc) ∧ w4.cell? ⟨w.heap.size, 2, none⟩ = some (.slice aka alk akc) ∧ w4.cell? ⟨w.heap.size, 3, none⟩ = some (.slice ava alv avc) ∧ w4.cell? ⟨w.heap.size, 4, none⟩ = some (.slice aca alc acc) ∧ w4.cell? ⟨w.heap.size, 5, none⟩ = some (.int .u64 alaid) ∧ w4.cell? ⟨w.heap.size + 1, 0, none⟩ = some (.int .i64 bseg) ∧ w4.cell? ⟨w.heap.size + 1, 1, none⟩ = some (.slice bwa blw bwc) ∧ w4.cell? ⟨w.heap.size + 1, 2, none⟩ = some (.slice bka blk bkc) ∧ w4.cell? ⟨w.heap.size + 1, 3, none⟩ = some (.slice bva blv bvc) ∧ w4.cell? ⟨w.heap.size + 1, 4, none⟩ = some (.slice bca blc bcc) ∧ w4.cell? ⟨w.heap.size + 1, 5, none⟩ = some (.int .u64 blaid) := by refine ⟨?_, ?_, ?_, ?_, ?_, ?_, ?_, ?_, ?_, ?_, ?_, ?_⟩ <;> (refine (hb4.cell ?_).trans ?_ <;> first | (first | (with_reducible assumption) | omega | (simp only [World.size_alloc, World.size_setCell, World.size_drew, World.heap_drewN] <;> omega) | (simp <;> omega)) | (first | (with_reducible assumption) | ((try simp (disch := first | omega | (simp only [World.size_alloc, World.size_setCell, World.size_drew, World.heap_drewN] <;> omega) | fail) only [World.cell?_alloc_past, World.cell?_alloc_at, World.frozen?_alloc_past, World.frozen?_alloc_at, World.frozen?_setCell, World.cell?_drew, World.frozen?_drew]) <;> first | (with_reducible assumption) | rfl)))
  have all_z : w.heap.size < w4.heap.size ∧ w.heap.size + 1 < w4.heap.size := by refine ⟨?_, ?_⟩ <;> (omega)
  clear c_a0 c_a1 c_a2 c_a3 c_a4 c_a5 c_b0 c_b1 c_b2 c_b3 c_b4 c_b5 z_a z_b
  obtain ⟨c_a0, c_a1, c_a2, c_a3, c_a4, c_a5, c_b0, c_b1, c_b2, c_b3, c_b4, c_b5⟩ := all_c
  try clear all_c
  obtain ⟨z_a, z_b⟩ := all_z
  try clear all_z
  have hB4 : Below w.heap.size w w4 := by (repeat (first | (with_reducible exact Below.refl _ _) | (with_reducible assumption) | (with_reducible exact Hid.out (by with_reducible assumption)) | (with_reducible refine Below.alloc ?_ ?_ _) | (with_reducible refine Below.setCell ?_ ?_ _) | (with_reducible refine below_drewN ?_ _) | (with_reducible refine Below.drew ?_) | (with_reducible refine below_via (by with_reducible assumption) ?_ ?_) | (first | (with_reducible assumption) | omega | (simp only [World.size_alloc, World.size_setCell, World.size_drew, World.heap_drewN] <;> omega) | (simp <;> omega))))
  go_wp2_with fail
  refine (TB.out _ (by (repeat (first | (with_reducible exact Below.refl _ _) | (with_reducible assumption) | (with_reducible exact Hid.out (by with_reducible assumption)) | (with_reducible refine Below.alloc ?_ ?_ _) | (with_reducible refine Below.setCell ?_ ?_ _) | (with_reducible refine below_drewN ?_ _) | (with_reducible refine Below.drew ?_) | (with_reducible refine below_via (by with_reducible assumption) ?_ ?_) | (first | (with_reducible assumption) | omega | (simp only [World.size_alloc, World.size_setCell, World.size_drew, World.heap_drewN] <;> omega) | (simp <;> omega)))))).mono ?_
  rintro e w5 ⟨rfl, hb5⟩
  have hz_w5 := hb5.size
  try simp only [World.size_alloc, World.size_setCell] at hz_w5
  have all_c : w5.cell? ⟨w.heap.size, 0, none⟩ = some (.int .i64 aseg) ∧ w5.cell? ⟨w.heap.size, 1, none⟩ = some (.slice awa alw awc) ∧ w5.cell? ⟨w.heap.size, 2, none⟩ = some (.slice aka alk akc) ∧ w5.cell? ⟨w.heap.size, 3, none⟩ = some (.slice ava alv avc) ∧ w5.cell? ⟨w.heap.size, 4, none⟩ = some (.slice aca alc acc) ∧ w5.cell? ⟨w.heap.size, 5, none⟩ = some (.int .u64 alaid) ∧ w5.cell? ⟨w4.heap.size, 0, none⟩ = some (.int .i64 x1) ∧ w5.cell? ⟨w4.heap.size, 1, none⟩ = some (.int .i64 x2) := by refine ⟨?_, ?_, ?_, ?_, ?_, ?_, ?_, ?_⟩ <;> (refine (hb5.cell ?_).trans ?_ <;> first | (first | (with_reducible assumption) | omega | (simp only [World.size_alloc, World.size_setCell, World.size_drew, World.heap_drewN] <;> omega) | (simp <;> omega)) | (first | (with_reducible assumption) | ((try simp (disch := first | omega | (simp only [World.size_alloc, World.size_setCell, World.size_drew, World.heap_drewN] <;> omega) | fail) only [World.cell?_alloc_past, World.cell?_alloc_at, World.frozen?_alloc_past, World.frozen?_alloc_at, World.frozen?_setCell, World.cell?_drew, World.frozen?_drew]) <;> first | (with_reducible assumption) | rfl)))
  have all_z : w.heap.size < w5.heap.size ∧ w4.heap.size < w5.heap.size := by refine ⟨?_, ?_⟩ <;> (omega)
  clear c_a0 c_a1 c_a2 c_a3 c_a4 c_a5 z_a
  obtain ⟨c_a0, c_a1, c_a2, c_a3, c_a4, c_a5, c_p0, c_p1⟩ := all_c
  try clear all_c
  obtain ⟨z_a, z_p⟩ := all_z
  try clear all_z
  have hB5 : Below w.heap.size w w5 := by (repeat (first | (with_reducible exact Below.refl _ _) | (with_reducible assumption) | (with_reducible exact Hid.out (by with_reducible assumption)) | (with_reducible refine Below.alloc ?_ ?_ _) | (with_reducible refine Below.setCell ?_ ?_ _) | (with_reducible refine below_drewN ?_ _) | (with_reducible refine Below.drew ?_) | (with_reducible refine below_via (by with_reducible assumption) ?_ ?_) | (first | (with_reducible assumption) | omega | (simp only [World.size_alloc, World.size_setCell, World.size_drew, World.heap_drewN] <;> omega) | (simp <;> omega))))
  go_wp2
  go_ret
  exact ⟨rfl, by (repeat (first | (with_reducible exact Below.refl _ _) | (with_reducible assumption) | (with_reducible exact Hid.out (by with_reducible assumption)) | (with_reducible refine Below.alloc ?_ ?_ _) | (with_reducible refine Below.setCell ?_ ?_ _) | (with_reducible refine below_drewN ?_ _) | (with_reducible refine Below.drew ?_) | (with_reducible refine below_via (by with_reducible assumption) ?_ ?_) | (first | (with_reducible assumption) | omega | (simp only [World.size_alloc, World.size_setCell, World.size_drew, World.heap_drewN] <;> omega) | (simp <;> omega))))⟩

set_option maxRecDepth 100000 in
set_option maxHeartbeats 4000000 in
theorem MI_seg (awa aka ava aca : Option Addr) (awc akc avc acc alw alk alv alc : Nat) (alaid : Int) (bseg : Int) (bwa bka bva bca : Option Addr) (bwc bkc bvc bcc blw blk blv blc : Nat) (blaid : Int) (at_ : Int) (SS : Nat) (w : World) (x1 x2 e1 : Int) (F Tt lo hi : Nat) (l1 l2 : List (Int × Int)) (s0 : Bool) (sm : Nat → Bool) (pa pb ea qa qb eb : Nat → Int) (hs : 4 ≤ SS) (h0 : 0 ≤ at_) (ha : at_ < (alk : Int)) (hFT : F < Tt) (hT : Tt ≤ alc) (hcl : alc ≤ 600) (hSS : SS ≤ 64)
    (hlo : (F : Int) * SS = lo) (hhi : ((F : Int) + 1) * SS = hi) (hlh : lo ≤ hi) (hhb : hi ≤ 600) (hst : sm lo = s0) (hend : sm hi = false) (HSM : Hid (∀ k, lo ≤ k → k < hi → sm (k + 1) = (sm k && (ea k == eb k)))) (G1 : Hid (∀ W, Calls Try.prog 10 #[.agg #[.int .i64 (SS : Int), .slice awa alw awc, .slice aka alk akc, .slice ava alv avc, .slice aca alc acc, .int .u64 alaid], .int .i64 600] W (AnsB W (.bool false)))) (G2 : Hid (∀ W, Calls Try.prog 10 #[.agg #[.int .i64 bseg, .slice bwa blw bwc, .slice bka blk bkc, .slice bva blv bvc, .slice bca blc bcc, .int .u64 blaid], .int .i64 600] W (AnsB W (.bool false))))
    (TU : Hid (∀ W, Below w.heap.size w W → Calls Try.prog 13 #[.agg #[.int .i64 (SS : Int), .slice awa alw awc, .slice aka alk akc, .slice ava alv avc, .slice aca alc acc, .int .u64 alaid], .agg #[.int .i64 bseg, .slice bwa blw bwc, .slice bka blk bkc, .slice bva blv bvc, .slice bca blc bcc, .int .u64 blaid]] W (AnsB W (.tuple #[.int .i64 F, .int .i64 Tt, .int .i64 0]))))
    (TA : Hid (∀ W, Below w.heap.size w W → Calls Try.prog 25 #[.agg #[.int .i64 (SS : Int), .slice awa alw awc, .slice aka alk akc, .slice ava alv avc, .slice aca alc acc, .int .u64 alaid], .int .i64 at_] W (AnsB W (.tuple #[.agg #[.int .i64 x1, .int .i64 x2], .int .i64 e1]))))
    (TB : Hid (∀ W, Below w.heap.size w W → Calls Try.prog 25 #[.agg #[.int .i64 bseg, .slice bwa blw bwc, .slice bka blk bkc, .slice bva blv bvc, .slice bca blc bcc, .int .u64 blaid], .int .i64 at_] W (AnsB W (.tuple #[.agg #[.int .i64 x1, .int .i64 x2], .int .i64 e1]))))
    (KA : Hid (∀ (k : Nat) (_ : lo ≤ k) (_ : k < hi) W, Below w.heap.size w W → Calls Try.prog 25 #[.agg #[.int .i64 (SS : Int), .slice awa alw awc, .slice aka alk akc, .slice ava alv avc, .slice aca alc acc, .int .u64 alaid], .int .i64 (k : Int)] W (AnsB W (.tuple #[.agg #[.int .i64 (pa k), .int .i64 (pb k)], .int .i64 (ea k)]))))
    (KB : Hid (∀ (k : Nat) (_ : lo ≤ k) (_ : k < hi) W, Below w.heap.size w W → Calls Try.prog 25 #[.agg #[.int .i64 bseg, .slice bwa blw bwc, .slice bka blk bkc, .slice bva blv bvc, .slice bca blc bcc, .int .u64 blaid], .int .i64 (k : Int)] W (AnsB W (.tuple #[.agg #[.int .i64 (qa k), .int .i64 (qb k)], .int .i64 (eb k)]))))
    (PA : Hid (∀ W, Below w.heap.size w W → Calls Try.prog 26 #[.agg #[.int .i64 (SS : Int), .slice awa alw awc, .slice aka alk akc, .slice ava alv avc, .slice aca alc acc, .int .u64 alaid], .int .i64 lo, .int .i64 hi] W (FreshPr2 W l1 (.int .i64 0))))
    (PB : Hid (∀ W, Below w.heap.size w W → Calls Try.prog 26 #[.agg #[.int .i64 bseg, .slice bwa blw bwc, .slice bka blk bkc, .slice bva blv bvc, .slice bca blc bcc, .int .u64 blaid], .int .i64 lo, .int .i64 hi] W (FreshPr2 W l2 (.int .i64 0))))
    (SP : Hid (∀ p q cp cq W, IsRow .i64 W p (prI l1) → IsRow .i64 W q (prI l2) → Calls Try.prog 27 #[.slice p l1.length cp, .slice q l2.length cq] W (AnsB W (.bool s0)))) :
    Calls Try.prog 6 #[.agg #[.int .i64 (SS : Int), .slice awa alw awc, .slice aka alk akc, .slice ava alv avc, .slice aca alc acc, .int .u64 alaid], .agg #[.int .i64 bseg, .slice bwa blw bwc, .slice bka blk bkc, .slice bva blv bvc, .slice bca blc bcc, .int .u64 blaid], .int .i64 at_] w (AnsB w (.bool true)) := by
  have AL := Lib.hid alive20_ok
  have k1 : IntKind.i64.wrap ((F : Int) + 1) = (F : Int) + 1 := IntWalk.i64_in _ (by omega)
  have k2 : IntKind.i64.wrap ((F : Int) * SS) = lo := by rw [hlo]; exact IntWalk.i64_in _ (by omega)
  have k3 : IntKind.i64.wrap (((F : Int) + 1) * SS) = hi := by rw [hhi]; exact IntWalk.i64_in _ (by omega)
  have HST := Lib.hid hst
  have HEND := Lib.hid hend
  have hFn : ¬ F = Tt := by omega
  clear hlo hhi hst hend
  go_enter Try.func6, Try.ntmps6
  go_wp2_with fail
  refine (AL.out _).mono ?_
  rintro e w1 ⟨rfl, hb1⟩
  have hz_w1 := hb1.size
  try simp only [World.size_alloc, World.size_setCell] at hz_w1
  have all_c : w1.cell? ⟨w.heap.size, 0, none⟩ = some (.int .i64 (SS : Int)) ∧ w1.cell? ⟨w.heap.size, 1, none⟩ = some (.slice awa alw awc) ∧ w1.cell? ⟨w.heap.size, 2, none⟩ = some (.slice aka alk akc) ∧ w1.cell? ⟨w.heap.size, 3, none⟩ = some (.slice ava alv avc) ∧ w1.cell? ⟨w.heap.size, 4, none⟩ = some (.slice aca alc acc) ∧ w1.cell? ⟨w.heap.size, 5, none⟩ = some (.int .u64 alaid) ∧ w1.cell? ⟨w.heap.size + 1, 0, none⟩ = some (.int .i64 bseg) ∧ w1.cell? ⟨w.heap.size + 1, 1, none⟩ = some (.slice bwa blw bwc) ∧ w1.cell? ⟨w.heap.size + 1, 2, none⟩ = some (.slice bka blk bkc) ∧ w1.cell? ⟨w.heap.size + 1, 3, none⟩ = some (.slice bva blv bvc) ∧ w1.cell? ⟨w.heap.size + 1, 4, none⟩ = some (.slice bca blc bcc) ∧ w1.cell? ⟨w.heap.size + 1, 5, none⟩ = some (.int .u64 blaid) := by refine ⟨?_, ?_, ?_, ?_, ?_, ?_, ?_, ?_, ?_, ?_, ?_, ?_⟩ <;> (refine (hb1.cell ?_).trans ?_ <;> first | (first | (with_reducible assumption) | omega | (simp only [World.size_alloc, World.size_setCell, World.size_drew, World.heap_drewN] <;> omega) | (simp <;> omega)) | (first | (with_reducible assumption) | ((try simp (disch := first | omega | (simp only [World.size_alloc, World.size_setCell, World.size_drew, World.heap_drewN] <;> omega) | fail) only [World.cell?_alloc_past, World.cell?_alloc_at, World.frozen?_alloc_past, World.frozen?_alloc_at, World.frozen?_setCell, World.cell?_drew, World.frozen?_drew]) <;> first | (with_reducible assumption) | rfl)))
  have all_z : w.heap.size < w1.heap.size ∧ w.heap.size + 1 < w1.heap.size := by refine ⟨?_, ?_⟩ <;> (omega)
  obtain ⟨c_a0, c_a1, c_a2, c_a3, c_a4, c_a5, c_b0, c_b1, c_b2, c_b3, c_b4, c_b5⟩ := all_c
  try clear all_c
  obtain ⟨z_a, z_b⟩ := all_z
  try clear all_z
  have hB1 : Below w.heap.size w w1 := by (repeat (first | (with_reducible exact Below.refl _ _) | (with_reducible assumption) | (with_reducible exact Hid.out (by with_reducible assumption)) | (with_reducible refine Below.alloc ?_ ?_ _) | (with_reducible refine Below.setCell ?_ ?_ _) | (with_reducible refine below_drewN ?_ _) | (with_reducible refine Below.drew ?_) | (with_reducible refine below_via (by with_reducible assumption) ?_ ?_) | (first | (with_reducible assumption) | omega | (simp only [World.size_alloc, World.size_setCell, World.size_drew, World.heap_drewN] <;> omega) | (simp <;> omega))))
  go_wp2_with fail
  refine (G1.out _).mono ?_
  rintro e v1 ⟨rfl, hv1⟩
  have hz_v1 := hv1.size
  try simp only [World.size_alloc, World.size_setCell] at hz_v1
  have all_c : v1.cell? ⟨w.heap.size, 0, none⟩ = some (.int .i64 (SS : Int)) ∧ v1.cell? ⟨w.heap.size, 1, none⟩ = some (.slice awa alw awc) ∧ v1.cell? ⟨w.heap.size, 2, none⟩ = some (.slice aka alk akc) ∧ v1.cell? ⟨w.heap.size, 3, none⟩ = some (.slice ava alv avc) ∧ v1.cell? ⟨w.heap.size, 4, none⟩ = some (.slice aca alc acc) ∧ v1.cell? ⟨w.heap.size, 5, none⟩ = some (.int .u64 alaid) ∧ v1.cell? ⟨w.heap.size + 1, 0, none⟩ = some (.int .i64 bseg) ∧ v1.cell? ⟨w.heap.size + 1, 1, none⟩ = some (.slice bwa blw bwc) ∧ v1.cell? ⟨w.heap.size + 1, 2, none⟩ = some (.slice bka blk bkc) ∧ v1.cell? ⟨w.heap.size + 1, 3, none⟩ = some (.slice bva blv bvc) ∧ v1.cell? ⟨w.heap.size + 1, 4, none⟩ = some (.slice bca blc bcc) ∧ v1.cell? ⟨w.heap.size + 1, 5, none⟩ = some (.int .u64 blaid) := by refine ⟨?_, ?_, ?_, ?_, ?_, ?_, ?_, ?_, ?_, ?_, ?_, ?_⟩ <;> (refine (hv1.cell ?_).trans ?_ <;> first | (first | (with_reducible assumption) | omega | (simp only [World.size_alloc, World.size_setCell, World.size_drew, World.heap_drewN] <;> omega) | (simp <;> omega)) | (first | (with_reducible assumption) | ((try simp (disch := first | omega | (simp only [World.size_alloc, World.size_setCell, World.size_drew, World.heap_drewN] <;> omega) | fail) only [World.cell?_alloc_past, World.cell?_alloc_at, World.frozen?_alloc_past, World.frozen?_alloc_at, World.frozen?_setCell, World.cell?_drew, World.frozen?_drew]) <;> first | (with_reducible assumption) | rfl)))
  have all_z : w.heap.size < v1.heap.size ∧ w.heap.size + 1 < v1.heap.size := by refine ⟨?_, ?_⟩ <;> (omega)
  clear c_a0 c_a1 c_a2 c_a3 c_a4 c_a5 c_b0 c_b1 c_b2 c_b3 c_b4 c_b5 z_a z_b
  obtain ⟨c_a0, c_a1, c_a2, c_a3, c_a4, c_a5, c_b0, c_b1, c_b2, c_b3, c_b4, c_b5⟩ := all_c
  try clear all_c
  obtain ⟨z_a, z_b⟩ := all_z
  try clear all_z
  have hV1 : Below w.heap.size w v1 := by (repeat (first | (with_reducible exact Below.refl _ _) | (with_reducible assumption) | (with_reducible exact Hid.out (by with_reducible assumption)) | (with_reducible refine Below.alloc ?_ ?_ _) | (with_reducible refine Below.setCell ?_ ?_ _) | (with_reducible refine below_drewN ?_ _) | (with_reducible refine Below.drew ?_) | (with_reducible refine below_via (by with_reducible assumption) ?_ ?_) | (first | (with_reducible assumption) | omega | (simp only [World.size_alloc, World.size_setCell, World.size_drew, World.heap_drewN] <;> omega) | (simp <;> omega))))
  go_wp2_with fail
  refine (G2.out _).mono ?_
  rintro e v2 ⟨rfl, hv2⟩
  have hz_v2 := hv2.size
  try simp only [World.size_alloc, World.size_setCell] at hz_v2
  have all_c : v2.cell? ⟨w.heap.size, 0, none⟩ = some (.int .i64 (SS : Int)) ∧ v2.cell? ⟨w.heap.size, 1, none⟩ = some (.slice awa alw awc) ∧ v2.cell? ⟨w.heap.size, 2, none⟩ = some (.slice aka alk akc) ∧ v2.cell? ⟨w.heap.size, 3, none⟩ = some (.slice ava alv avc) ∧ v2.cell? ⟨w.heap.size, 4, none⟩ = some (.slice aca alc acc) ∧ v2.cell? ⟨w.heap.size, 5, none⟩ = some (.int .u64 alaid) ∧ v2.cell? ⟨w.heap.size + 1, 0, none⟩ = some (.int .i64 bseg) ∧ v2.cell? ⟨w.heap.size + 1, 1, none⟩ = some (.slice bwa blw bwc) ∧ v2.cell? ⟨w.heap.size + 1, 2, none⟩ = some (.slice bka blk bkc) ∧ v2.cell? ⟨w.heap.size + 1, 3, none⟩ = some (.slice bva blv bvc) ∧ v2.cell? ⟨w.heap.size + 1, 4, none⟩ = some (.slice bca blc bcc) ∧ v2.cell? ⟨w.heap.size + 1, 5, none⟩ = some (.int .u64 blaid) := by refine ⟨?_, ?_, ?_, ?_, ?_, ?_, ?_, ?_, ?_, ?_, ?_, ?_⟩ <;> (refine (hv2.cell ?_).trans ?_ <;> first | (first | (with_reducible assumption) | omega | (simp only [World.size_alloc, World.size_setCell, World.size_drew, World.heap_drewN] <;> omega) | (simp <;> omega)) | (first | (with_reducible assumption) | ((try simp (disch := first | omega | (simp only [World.size_alloc, World.size_setCell, World.size_drew, World.heap_drewN] <;> omega) | fail) only [World.cell?_alloc_past, World.cell?_alloc_at, World.frozen?_alloc_past, World.frozen?_alloc_at, World.frozen?_setCell, World.cell?_drew, World.frozen?_drew]) <;> first | (with_reducible assumption) | rfl)))
  have all_z : w.heap.size < v2.heap.size ∧ w.heap.size + 1 < v2.heap.size := by refine ⟨?_, ?_⟩ <;> (omega)
  clear c_a0 c_a1 c_a2 c_a3 c_a4 c_a5 c_b0 c_b1 c_b2 c_b3 c_b4 c_b5 z_a z_b
  obtain ⟨c_a0, c_a1, c_a2, c_a3, c_a4, c_a5, c_b0, c_b1, c_b2, c_b3, c_b4, c_b5⟩ := all_c
  try clear all_c
  obtain ⟨z_a, z_b⟩ := all_z
  try clear all_z
  have hV2 : Below w.heap.size w v2 := by (repeat (first | (with_reducible exact Below.refl _ _) | (with_reducible assumption) | (with_reducible exact Hid.out (by with_reducible assumption)) | (with_reducible refine Below.alloc ?_ ?_ _) | (with_reducible refine Below.setCell ?_ ?_ _) | (with_reducible refine below_drewN ?_ _) | (with_reducible refine Below.drew ?_) | (with_reducible refine below_via (by with_reducible assumption) ?_ ?_) | (first | (with_reducible assumption) | omega | (simp only [World.size_alloc, World.size_setCell, World.size_drew, World.heap_drewN] <;> omega) | (simp <;> omega))))
  go_wp2_with fail
  refine (TU.out _ hV2).mono ?_
  rintro e w3 ⟨rfl, hb3⟩
  have hz_w3 := hb3.size
  try simp only [World.size_alloc, World.size_setCell] at hz_w3
  have all_c : w3.cell? ⟨w.heap.size, 0, none⟩ = some (.int .i64 (SS : Int)) ∧ w3.cell? ⟨w.heap.size, 1, none⟩ = some (.slice awa alw awc) ∧ w3.cell? ⟨w.heap.size, 2, none⟩ = some (.slice aka alk akc) ∧ w3.cell? ⟨w.heap.size, 3, none⟩ = some (.slice ava alv avc) ∧ w3.cell? ⟨w.heap.size, 4, none⟩ = some (.slice aca alc acc) ∧ w3.cell? ⟨w.heap.size, 5, none⟩ = some (.int .u64 alaid) ∧ w3.cell? ⟨w.heap.size + 1, 0, none⟩ = some (.int .i64 bseg) ∧ w3.cell? ⟨w.heap.size + 1, 1, none⟩ = some (.slice bwa blw bwc) ∧ w3.cell? ⟨w.heap.size + 1, 2, none⟩ = some (.slice bka blk bkc) ∧ w3.cell? ⟨w.heap.size + 1, 3, none⟩ = some (.slice bva blv bvc) ∧ w3.cell? ⟨w.heap.size + 1, 4, none⟩ = some (.slice bca blc bcc) ∧ w3.cell? ⟨w.heap.size + 1, 5, none⟩ = some (.int .u64 blaid) := by refine ⟨?_, ?_, ?_, ?_, ?_, ?_, ?_, ?_, ?_, ?_, ?_, ?_⟩ <;> (refine (hb3.cell ?_).trans ?_ <;> first | (first | (with_reducible assumption) | omega | (simp only [World.size_alloc, World.size_setCell, World.size_drew, World.heap_drewN] <;> omega) | (simp <;> omega)) | (first | (with_reducible assumption) | ((try simp (disch := first | omega | (simp only [World.size_alloc, World.size_setCell, World.size_drew, World.heap_drewN] <;> omega) | fail) only [World.cell?_alloc_past, World.cell?_alloc_at, World.frozen?_alloc_past, World.frozen?_alloc_at, World.frozen?_setCell, World.cell?_drew, World.frozen?_drew]) <;> first | (with_reducible assumption) | rfl)))
  have all_z : w.heap.size < w3.heap.size ∧ w.heap.size + 1 < w3.heap.size := by refine ⟨?_, ?_⟩ <;> (omega)
  clear c_a0 c_a1 c_a2 c_a3 c_a4 c_a5 c_b0 c_b1 c_b2 c_b3 c_b4 c_b5 z_a z_b
  obtain ⟨c_a0, c_a1, c_a2, c_a3, c_a4, c_a5, c_b0, c_b1, c_b2, c_b3, c_b4, c_b5⟩ := all_c
  try clear all_c
  obtain ⟨z_a, z_b⟩ := all_z
  try clear all_z
  have hB3 : Below w.heap.size w w3 := by (repeat (first | (with_reducible exact Below.refl _ _) | (with_reducible assumption) | (with_reducible exact Hid.out (by with_reducible assumption)) | (with_reducible refine Below.alloc ?_ ?_ _) | (with_reducible refine Below.setCell ?_ ?_ _) | (with_reducible refine below_drewN ?_ _) | (with_reducible refine Below.drew ?_) | (with_reducible refine below_via (by with_reducible assumption) ?_ ?_) | (first | (with_reducible assumption) | omega | (simp only [World.size_alloc, World.size_setCell, World.size_drew, World.heap_drewN] <;> omega) | (simp <;> omega))))
  go_wp2_with fail
  refine (TA.out _ hB3).mono ?_
  rintro e w4 ⟨rfl, hb4⟩
  have hz_w4 := hb4.size
  try simp only [World.size_alloc, World.size_setCell] at hz_w4
  have all_c : w4.cell? ⟨w.heap.size, 0, none⟩ = some (.int .i64 (SS : Int)) ∧ w4.cell? ⟨w.heap.size, 1, none⟩ = some (.slice awa alw awc) ∧ w4.cell? ⟨w.heap.size, 2, none⟩ = some (.slice aka alk akc) ∧ w4.cell? ⟨w.heap.size, 3, none⟩ = some (.slice ava alv avc) ∧ w4.cell? ⟨w.heap.size, 4, none⟩ = some (.slice aca alc acc) ∧ w4.cell? ⟨w.heap.size, 5, none⟩ = some (.int .u64 alaid) ∧ w4.cell? ⟨w.heap.size + 1, 0, none⟩ = some (.int .i64 bseg) ∧ w4.cell? ⟨w.heap.size + 1, 1, none⟩ = some (.slice bwa blw bwc) ∧ w4.cell? ⟨w.heap.size + 1, 2, none⟩ = some (.slice bka blk bkc) ∧ w4.cell? ⟨w.heap.size + 1, 3, none⟩ = some (.slice bva blv bvc) ∧ w4.cell? ⟨w.heap.size + 1, 4, none⟩ = some (.slice bca blc bcc) ∧ w4.cell? ⟨w.heap.size + 1, 5, none⟩ = some (.int .u64 blaid) := by refine ⟨?_, ?_, ?_, ?_, ?_, ?_, ?_, ?_, ?_, ?_, ?_, ?_⟩ <;> (refine (hb4.cell ?_).trans ?_ <;> first | (first | (with_reducible assumption) | omega | (simp only [World.size_alloc, World.size_setCell, World.size_drew, World.heap_drewN] <;> omega) | (simp <;> omega)) | (first | (with_reducible assumption) | ((try simp (disch := first | omega | (simp only [World.size_alloc, World.size_setCell, World.size_drew, World.heap_drewN] <;> omega) | fail) only [World.cell?_alloc_past, World.cell?_alloc_at, World.frozen?_alloc_past, World.frozen?_alloc_at, World.frozen?_setCell, World.cell?_drew, World.frozen?_drew]) <;> first | (with_reducible assumption) | rfl)))
  have all_z : w.heap.size < w4.heap.size ∧ w.heap.size + 1 < w4.heap.size := by refine ⟨?_, ?_⟩ <;> (omega)
  clear c_a0 c_a1 c_a2 c_a3 c_a4 c_a5 c_b0 c_b1 c_b2 c_b3 c_b4 c_b5 z_a z_b
  obtain ⟨c_a0, c_a1, c_a2, c_a3, c_a4, c_a5, c_b0, c_b1, c_b2, c_b3, c_b4, c_b5⟩ := all_c
  try clear all_c
  obtain ⟨z_a, z_b⟩ := all_z
  try clear all_z
  have hB4 : Below w.heap.size w w4 := by (repeat (first | (with_reducible exact Below.refl _ _) | (with_reducible assumption) | (with_reducible exact Hid.out (by with_reducible assumption)) | (with_reducible refine Below.alloc ?_ ?_ _) | (with_reducible refine Below.setCell ?_ ?_ _) | (with_reducible refine below_drewN ?_ _) | (with_reducible refine Below.drew ?_) | (with_reducible refine below_via (by with_reducible assumption) ?_ ?_) | (first | (with_reducible assumption) | omega | (simp only [World.size_alloc, World.size_setCell, World.size_drew, World.heap_drewN] <;> omega) | (simp <;> omega))))
  go_wp2_with fail
  refine (TB.out _ (by (repeat (first | (with_reducible exact Below.refl _ _) | (with_reducible assumption) | (with_reducible exact Hid.out (by with_reducible assumption)) | (with_reducible refine Below.alloc ?_ ?_ _) | (with_reducible refine Below.setCell ?_ ?_ _) | (with_reducible refine below_drewN ?_ _) | (with_reducible refine Below.drew ?_) | (with_reducible refine below_via (by with_reducible assumption) ?_ ?_) | (first | (with_reducible assumption) | omega | (simp only [World.size_alloc, World.size_setCell, World.size_drew, World.heap_drewN] <;> omega) | (simp <;> omega)))))).mono ?_
  rintro e w5 ⟨rfl, hb5⟩
  have hz_w5 := hb5.size
  try simp only [World.size_alloc, World.size_setCell] at hz_w5
  have all_c : w5.cell? ⟨w.heap.size, 0, none⟩ = some (.int .i64 (SS : Int)) ∧ w5.cell? ⟨w.heap.size, 1, none⟩ = some (.slice awa alw awc) ∧ w5.cell? ⟨w.heap.size, 2, none⟩ = some (.slice aka alk akc) ∧ w5.cell? ⟨w.heap.size, 3, none⟩ = some (.slice ava alv avc) ∧ w5.cell? ⟨w.heap.size, 4, none⟩ = some (.slice aca alc acc) ∧ w5.cell? ⟨w.heap.size, 5, none⟩ = some (.int .u64 alaid) ∧ w5.cell? ⟨w.heap.size + 1, 0, none⟩ = some (.int .i64 bseg) ∧ w5.cell? ⟨w.heap.size + 1, 1, none⟩ = some (.slice bwa blw bwc) ∧ w5.cell? ⟨w.heap.size + 1, 2, none⟩ = some (.slice bka blk bkc) ∧ w5.cell? ⟨w.heap.size + 1, 3, none⟩ = some (.slice bva blv bvc) ∧ w5.cell? ⟨w.heap.size + 1, 4, none⟩ = some (.slice bca blc bcc) ∧ w5.cell? ⟨w.heap.size + 1, 5, none⟩ = some (.int .u64 blaid) ∧ w5.cell? ⟨w4.heap.size, 0, none⟩ = some (.int .i64 x1) ∧ w5.cell? ⟨w4.heap.size, 1, none⟩ = some (.int .i64 x2) := by refine ⟨?_, ?_, ?_, ?_, ?_, ?_, ?_, ?_, ?_, ?_, ?_, ?_, ?_, ?_⟩ <;> (refine (hb5.cell ?_).trans ?_ <;> first | (first | (with_reducible assumption) | omega | (simp only [World.size_alloc, World.size_setCell, World.size_drew, World.heap_drewN] <;> omega) | (simp <;> omega)) | (first | (with_reducible assumption) | ((try simp (disch := first | omega | (simp only [World.size_alloc, World.size_setCell, World.size_drew, World.heap_drewN] <;> omega) | fail) only [World.cell?_alloc_past, World.cell?_alloc_at, World.frozen?_alloc_past, World.frozen?_alloc_at, World.frozen?_setCell, World.cell?_drew, World.frozen?_drew]) <;> first | (with_reducible assumption) | rfl)))
  have all_z : w.heap.size < w5.heap.size ∧ w.heap.size + 1 < w5.heap.size ∧ w4.heap.size < w5.heap.size := by refine ⟨?_, ?_, ?_⟩ <;> (omega)
  clear c_a0 c_a1 c_a2 c_a3 c_a4 c_a5 c_b0 c_b1 c_b2 c_b3 c_b4 c_b5 z_a z_b
  obtain ⟨c_a0, c_a1, c_a2, c_a3, c_a4, c_a5, c_b0, c_b1, c_b2, c_b3, c_b4, c_b5, c_p0, c_p1⟩ := all_c
  try clear all_c
  obtain ⟨z_a, z_b, z_p⟩ := all_z
  try clear all_z
  have hB5 : Below w.heap.size w w5 := by (repeat (first | (with_reducible exact Below.refl _ _) | (with_reducible assumption) | (with_reducible exact Hid.out (by with_reducible assumption)) | (with_reducible refine Below.alloc ?_ ?_ _) | (with_reducible refine Below.setCell ?_ ?_ _) | (with_reducible refine below_drewN ?_ _) | (with_reducible refine Below.drew ?_) | (with_reducible refine below_via (by with_reducible assumption) ?_ ?_) | (first | (with_reducible assumption) | omega | (simp only [World.size_alloc, World.size_setCell, World.size_drew, World.heap_drewN] <;> omega) | (simp <;> omega))))
  go_wp2_with fail
  refine (PA.out _ (by (repeat (first | (with_reducible exact Below.refl _ _) | (with_reducible assumption) | (with_reducible exact Hid.out (by with_reducible assumption)) | (with_reducible refine Below.alloc ?_ ?_ _) | (with_reducible refine Below.setCell ?_ ?_ _) | (with_reducible refine below_drewN ?_ _) | (with_reducible refine Below.drew ?_) | (with_reducible refine below_via (by with_reducible assumption) ?_ ?_) | (first | (with_reducible assumption) | omega | (simp only [World.size_alloc, World.size_setCell, World.size_drew, World.heap_drewN] <;> omega) | (simp <;> omega)))))).mono ?_
  rintro e w6 ⟨v6, rfl, o1, hb6⟩
  have hz_w6 := hb6.size
  try simp only [World.size_alloc, World.size_setCell] at hz_w6
  have all_c : w6.cell? ⟨w.heap.size, 0, none⟩ = some (.int .i64 (SS : Int)) ∧ w6.cell? ⟨w.heap.size, 1, none⟩ = some (.slice awa alw awc) ∧ w6.cell? ⟨w.heap.size, 2, none⟩ = some (.slice aka alk akc) ∧ w6.cell? ⟨w.heap.size, 3, none⟩ = some (.slice ava alv avc) ∧ w6.cell? ⟨w.heap.size, 4, none⟩ = some (.slice aca alc acc) ∧ w6.cell? ⟨w.heap.size, 5, none⟩ = some (.int .u64 alaid) ∧ w6.cell? ⟨w.heap.size + 1, 0, none⟩ = some (.int .i64 bseg) ∧ w6.cell? ⟨w.heap.size + 1, 1, none⟩ = some (.slice bwa blw bwc) ∧ w6.cell? ⟨w.heap.size + 1, 2, none⟩ = some (.slice bka blk bkc) ∧ w6.cell? ⟨w.heap.size + 1, 3, none⟩ = some (.slice bva blv bvc) ∧ w6.cell? ⟨w.heap.size + 1, 4, none⟩ = some (.slice bca blc bcc) ∧ w6.cell? ⟨w.heap.size + 1, 5, none⟩ = some (.int .u64 blaid) := by refine ⟨?_, ?_, ?_, ?_, ?_, ?_, ?_, ?_, ?_, ?_, ?_, ?_⟩ <;> (refine (hb6.cell ?_).trans ?_ <;> first | (first | (with_reducible assumption) | omega | (simp only [World.size_alloc, World.size_setCell, World.size_drew, World.heap_drewN] <;> omega) | (simp <;> omega)) | (first | (with_reducible assumption) | ((try simp (disch := first | omega | (simp only [World.size_alloc, World.size_setCell, World.size_drew, World.heap_drewN] <;> omega) | fail) only [World.cell?_alloc_past, World.cell?_alloc_at, World.frozen?_alloc_past, World.frozen?_alloc_at, World.frozen?_setCell, World.cell?_drew, World.frozen?_drew]) <;> first | (with_reducible assumption) | rfl)))
  have all_z : w.heap.size < w6.heap.size ∧ w.heap.size + 1 < w6.heap.size := by refine ⟨?_, ?_⟩ <;> (omega)
  clear c_a0 c_a1 c_a2 c_a3 c_a4 c_a5 c_b0 c_b1 c_b2 c_b3 c_b4 c_b5 z_a z_b
  obtain ⟨c_a0, c_a1, c_a2, c_a3, c_a4, c_a5, c_b0, c_b1, c_b2, c_b3, c_b4, c_b5⟩ := all_c
  try clear all_c
  obtain ⟨z_a, z_b⟩ := all_z
  try clear all_z
  have hB6 : Below w.heap.size w w6 := by (repeat (first | (with_reducible exact Below.refl _ _) | (with_reducible assumption) | (with_reducible exact Hid.out (by with_reducible assumption)) | (with_reducible refine Below.alloc ?_ ?_ _) | (with_reducible refine Below.setCell ?_ ?_ _) | (with_reducible refine below_drewN ?_ _) | (with_reducible refine Below.drew ?_) | (with_reducible refine below_via (by with_reducible assumption) ?_ ?_) | (first | (with_reducible assumption) | omega | (simp only [World.size_alloc, World.size_setCell, World.size_drew, World.heap_drewN] <;> omega) | (simp <;> omega))))
  obtain ⟨p6, pc6, rfl, i1, -, -, -, -⟩ := row_of_owns o1
  have I1 := Lib.hid (fun W (hb : Below w6.heap.size w6 W) => i1.below hb)
  clear o1 i1 hb6
  go_wp2_with fail
  refine (PB.out _ hB6).mono ?_
  rintro e w7 ⟨v7, rfl, o2, hb7⟩
  have hz_w7 := hb7.size
  try simp only [World.size_alloc, World.size_setCell] at hz_w7
  have all_c : w7.cell? ⟨w.heap.size, 0, none⟩ = some (.int .i64 (SS : Int)) ∧ w7.cell? ⟨w.heap.size, 1, none⟩ = some (.slice awa alw awc) ∧ w7.cell? ⟨w.heap.size, 2, none⟩ = some (.slice aka alk akc) ∧ w7.cell? ⟨w.heap.size, 3, none⟩ = some (.slice ava alv avc) ∧ w7.cell? ⟨w.heap.size, 4, none⟩ = some (.slice aca alc acc) ∧ w7.cell? ⟨w.heap.size, 5, none⟩ = some (.int .u64 alaid) ∧ w7.cell? ⟨w.heap.size + 1, 0, none⟩ = some (.int .i64 bseg) ∧ w7.cell? ⟨w.heap.size + 1, 1, none⟩ = some (.slice bwa blw bwc) ∧ w7.cell? ⟨w.heap.size + 1, 2, none⟩ = some (.slice bka blk bkc) ∧ w7.cell? ⟨w.heap.size + 1, 3, none⟩ = some (.slice bva blv bvc) ∧ w7.cell? ⟨w.heap.size + 1, 4, none⟩ = some (.slice bca blc bcc) ∧ w7.cell? ⟨w.heap.size + 1, 5, none⟩ = some (.int .u64 blaid) := by refine ⟨?_, ?_, ?_, ?_, ?_, ?_, ?_, ?_, ?_, ?_, ?_, ?_⟩ <;> (refine (hb7.cell ?_).trans ?_ <;> first | (first | (with_reducible assumption) | omega | (simp only [World.size_alloc, World.size_setCell, World.size_drew, World.heap_drewN] <;> omega) | (simp <;> omega)) | (first | (with_reducible assumption) | ((try simp (disch := first | omega | (simp only [World.size_alloc, World.size_setCell, World.size_drew, World.heap_drewN] <;> omega) | fail) only [World.cell?_alloc_past, World.cell?_alloc_at, World.frozen?_alloc_past, World.frozen?_alloc_at, World.frozen?_setCell, World.cell?_drew, World.frozen?_drew]) <;> first | (with_reducible assumption) | rfl)))
  have all_z : w.heap.size < w7.heap.size ∧ w.heap.size + 1 < w7.heap.size := by refine ⟨?_, ?_⟩ <;> (omega)
  clear c_a0 c_a1 c_a2 c_a3 c_a4 c_a5 c_b0 c_b1 c_b2 c_b3 c_b4 c_b5 z_a z_b
  obtain ⟨c_a0, c_a1, c_a2, c_a3, c_a4, c_a5, c_b0, c_b1, c_b2, c_b3, c_b4, c_b5⟩ := all_c
  try clear all_c
  obtain ⟨z_a, z_b⟩ := all_z
  try clear all_z
  have hB7 : Below w.heap.size w w7 := by (repeat (first | (with_reducible exact Below.refl _ _) | (with_reducible assumption) | (with_reducible exact Hid.out (by with_reducible assumption)) | (with_reducible refine Below.alloc ?_ ?_ _) | (with_reducible refine Below.setCell ?_ ?_ _) | (with_reducible refine below_drewN ?_ _) | (with_reducible refine Below.drew ?_) | (with_reducible refine below_via (by with_reducible assumption) ?_ ?_) | (first | (with_reducible assumption) | omega | (simp only [World.size_alloc, World.size_setCell, World.size_drew, World.heap_drewN] <;> omega) | (simp <;> omega))))
  obtain ⟨p7, pc7, rfl, i2, -, -, -, -⟩ := row_of_owns o2
  have SP7 := Lib.hid (SP.out p6 p7 pc6 pc7 w7 (I1.out _ hb7) i2)
  clear o2 i2 hb7 I1
  go_wp2_with fail
  refine (SP7.out).mono ?_
  rintro e w8 ⟨rfl, hb8⟩
  have hz_w8 := hb8.size
  try simp only [World.size_alloc, World.size_setCell] at hz_w8
  have all_c : w8.cell? ⟨w.heap.size, 0, none⟩ = some (.int .i64 (SS : Int)) ∧ w8.cell? ⟨w.heap.size, 1, none⟩ = some (.slice awa alw awc) ∧ w8.cell? ⟨w.heap.size, 2, none⟩ = some (.slice aka alk akc) ∧ w8.cell? ⟨w.heap.size, 3, none⟩ = some (.slice ava alv avc) ∧ w8.cell? ⟨w.heap.size, 4, none⟩ = some (.slice aca alc acc) ∧ w8.cell? ⟨w.heap.size, 5, none⟩ = some (.int .u64 alaid) ∧ w8.cell? ⟨w.heap.size + 1, 0, none⟩ = some (.int .i64 bseg) ∧ w8.cell? ⟨w.heap.size + 1, 1, none⟩ = some (.slice bwa blw bwc) ∧ w8.cell? ⟨w.heap.size + 1, 2, none⟩ = some (.slice bka blk bkc) ∧ w8.cell? ⟨w.heap.size + 1, 3, none⟩ = some (.slice bva blv bvc) ∧ w8.cell? ⟨w.heap.size + 1, 4, none⟩ = some (.slice bca blc bcc) ∧ w8.cell? ⟨w.heap.size + 1, 5, none⟩ = some (.int .u64 blaid) := by refine ⟨?_, ?_, ?_, ?_, ?_, ?_, ?_, ?_, ?_, ?_, ?_, ?_⟩ <;> (refine (hb8.cell ?_).trans ?_ <;> first | (first | (with_reducible assumption) | omega | (simp only [World.size_alloc, World.size_setCell, World.size_drew, World.heap_drewN] <;> omega) | (simp <;> omega)) | (first | (with_reducible assumption) | ((try simp (disch := first | omega | (simp only [World.size_alloc, World.size_setCell, World.size_drew, World.heap_drewN] <;> omega) | fail) only [World.cell?_alloc_past, World.cell?_alloc_at, World.frozen?_alloc_past, World.frozen?_alloc_at, World.frozen?_setCell, World.cell?_drew, World.frozen?_drew]) <;> first | (with_reducible assumption) | rfl)))
  have all_z : w.heap.size < w8.heap.size ∧ w.heap.size + 1 < w8.heap.size := by refine ⟨?_, ?_⟩ <;> (omega)
  clear c_a0 c_a1 c_a2 c_a3 c_a4 c_a5 c_b0 c_b1 c_b2 c_b3 c_b4 c_b5 z_a z_b
  obtain ⟨c_a0, c_a1, c_a2, c_a3, c_a4, c_a5, c_b0, c_b1, c_b2, c_b3, c_b4, c_b5⟩ := all_c
  try clear all_c
  obtain ⟨z_a, z_b⟩ := all_z
  try clear all_z
  have hB8 : Below w.heap.size w w8 := by (repeat (first | (with_reducible exact Below.refl _ _) | (with_reducible assumption) | (with_reducible exact Hid.out (by with_reducible assumption)) | (with_reducible refine Below.alloc ?_ ?_ _) | (with_reducible refine Below.setCell ?_ ?_ _) | (with_reducible refine below_drewN ?_ _) | (with_reducible refine Below.drew ?_) | (with_reducible refine below_via (by with_reducible assumption) ?_ ?_) | (first | (with_reducible assumption) | omega | (simp only [World.size_alloc, World.size_setCell, World.size_drew, World.heap_drewN] <;> omega) | (simp <;> omega))))
  have HB8 := Lib.hid hB8
  clear hb8 SP7 TU TA TB PA PB SP G1 G2 AL
  go_wp2
  go_loopg [19, 20] (hi - lo) (fun gk sv iv wr => ∃ k : Nat, lo ≤ k ∧ k + gk = hi ∧ sv = .bool (sm k) ∧ iv = .int .i64 k ∧ Hid (Below w8.heap.size w8 wr))
  case atStart => exact ⟨lo, Nat.le_refl _, by omega, by rw [HST.out], rfl, Lib.hid (Below.refl _ _)⟩
  case round =>
    obtain ⟨k, hk1, hk, rfl, rfl, HBr⟩ := hrel
    have hzr := HBr.out.size
    have hz_wr := HBr.out.size
    try simp only [World.size_alloc, World.size_setCell] at hz_wr
    have all_c : wr.cell? ⟨w.heap.size, 0, none⟩ = some (.int .i64 (SS : Int)) ∧ wr.cell? ⟨w.heap.size, 1, none⟩ = some (.slice awa alw awc) ∧ wr.cell? ⟨w.heap.size, 2, none⟩ = some (.slice aka alk akc) ∧ wr.cell? ⟨w.heap.size, 3, none⟩ = some (.slice ava alv avc) ∧ wr.cell? ⟨w.heap.size, 4, none⟩ = some (.slice aca alc acc) ∧ wr.cell? ⟨w.heap.size, 5, none⟩ = some (.int .u64 alaid) ∧ wr.cell? ⟨w.heap.size + 1, 0, none⟩ = some (.int .i64 bseg) ∧ wr.cell? ⟨w.heap.size + 1, 1, none⟩ = some (.slice bwa blw bwc) ∧ wr.cell? ⟨w.heap.size + 1, 2, none⟩ = some (.slice bka blk bkc) ∧ wr.cell? ⟨w.heap.size + 1, 3, none⟩ = some (.slice bva blv bvc) ∧ wr.cell? ⟨w.heap.size + 1, 4, none⟩ = some (.slice bca blc bcc) ∧ wr.cell? ⟨w.heap.size + 1, 5, none⟩ = some (.int .u64 blaid) := by refine ⟨?_, ?_, ?_, ?_, ?_, ?_, ?_, ?_, ?_, ?_, ?_, ?_⟩ <;> (refine (HBr.out.cell ?_).trans ?_ <;> first | (first | (with_reducible assumption) | omega | (simp only [World.size_alloc, World.size_setCell, World.size_drew, World.heap_drewN] <;> omega) | (simp <;> omega)) | (first | (with_reducible assumption) | ((try simp (disch := first | omega | (simp only [World.size_alloc, World.size_setCell, World.size_drew, World.heap_drewN] <;> omega) | fail) only [World.cell?_alloc_past, World.cell?_alloc_at, World.frozen?_alloc_past, World.frozen?_alloc_at, World.frozen?_setCell, World.cell?_drew, World.frozen?_drew]) <;> first | (with_reducible assumption) | rfl)))
    have all_z : w.heap.size < wr.heap.size ∧ w.heap.size + 1 < wr.heap.size := by refine ⟨?_, ?_⟩ <;> (omega)
    clear c_a0 c_a1 c_a2 c_a3 c_a4 c_a5 c_b0 c_b1 c_b2 c_b3 c_b4 c_b5 z_a z_b
    obtain ⟨c_a0, c_a1, c_a2, c_a3, c_a4, c_a5, c_b0, c_b1, c_b2, c_b3, c_b4, c_b5⟩ := all_c
    try clear all_c
    obtain ⟨z_a, z_b⟩ := all_z
    try clear all_z
    have hBr : Below w.heap.size w wr := below_via HBr.out HB8.out (by omega)
    by_cases hlt : k < hi
    · have KA1 := Lib.hid (KA.out k hk1 hlt)
      have KB1 := Lib.hid (KB.out k hk1 hlt)
      have hst := HSM.out k hk1 hlt
      have HK := Lib.hid hk
      generalize hS1 : sm (k + 1) = s1 at *
      have HS1 := Lib.hid hS1
      have k5 : IntKind.i64.wrap ((k : Int) + 1) = (k : Int) + 1 := IntWalk.i64_in _ (by omega)
      clear hk hS1
      generalize pa k = u1 at *
      generalize pb k = u2 at *
      generalize qa k = v1 at *
      generalize qb k = v2 at *
      generalize ea k = ek at *
      generalize eb k = fk at *
      cases hsk : sm k with
      | false =>
        rw [hsk] at hst
        obtain rfl : s1 = false := hst
        go_wp2_with fail
        refine (KA1.out _ hBr).mono ?_
        rintro e w9 ⟨rfl, hb9⟩
        have hz_w9 := hb9.size
        try simp only [World.size_alloc, World.size_setCell] at hz_w9
        have all_c : w9.cell? ⟨w.heap.size, 0, none⟩ = some (.int .i64 (SS : Int)) ∧ w9.cell? ⟨w.heap.size, 1, none⟩ = some (.slice awa alw awc) ∧ w9.cell? ⟨w.heap.size, 2, none⟩ = some (.slice aka alk akc) ∧ w9.cell? ⟨w.heap.size, 3, none⟩ = some (.slice ava alv avc) ∧ w9.cell? ⟨w.heap.size, 4, none⟩ = some (.slice aca alc acc) ∧ w9.cell? ⟨w.heap.size, 5, none⟩ = some (.int .u64 alaid) ∧ w9.cell? ⟨w.heap.size + 1, 0, none⟩ = some (.int .i64 bseg) ∧ w9.cell? ⟨w.heap.size + 1, 1, none⟩ = some (.slice bwa blw bwc) ∧ w9.cell? ⟨w.heap.size + 1, 2, none⟩ = some (.slice bka blk bkc) ∧ w9.cell? ⟨w.heap.size + 1, 3, none⟩ = some (.slice bva blv bvc) ∧ w9.cell? ⟨w.heap.size + 1, 4, none⟩ = some (.slice bca blc bcc) ∧ w9.cell? ⟨w.heap.size + 1, 5, none⟩ = some (.int .u64 blaid) := by refine ⟨?_, ?_, ?_, ?_, ?_, ?_, ?_, ?_, ?_, ?_, ?_, ?_⟩ <;> (refine (hb9.cell ?_).trans ?_ <;> first | (first | (with_reducible assumption) | omega | (simp only [World.size_alloc, World.size_setCell, World.size_drew, World.heap_drewN] <;> omega) | (simp <;> omega)) | (first | (with_reducible assumption) | ((try simp (disch := first | omega | (simp only [World.size_alloc, World.size_setCell, World.size_drew, World.heap_drewN] <;> omega) | fail) only [World.cell?_alloc_past, World.cell?_alloc_at, World.frozen?_alloc_past, World.frozen?_alloc_at, World.frozen?_setCell, World.cell?_drew, World.frozen?_drew]) <;> first | (with_reducible assumption) | rfl)))
        have all_z : w.heap.size < w9.heap.size ∧ w.heap.size + 1 < w9.heap.size := by refine ⟨?_, ?_⟩ <;> (omega)
        clear c_a0 c_a1 c_a2 c_a3 c_a4 c_a5 c_b0 c_b1 c_b2 c_b3 c_b4 c_b5 z_a z_b
        obtain ⟨c_a0, c_a1, c_a2, c_a3, c_a4, c_a5, c_b0, c_b1, c_b2, c_b3, c_b4, c_b5⟩ := all_c
        try clear all_c
        obtain ⟨z_a, z_b⟩ := all_z
        try clear all_z
        have hB9 : Below w8.heap.size w8 w9 := below_via hb9 HBr.out (by omega)
        have hBB := below_via hB9 HB8.out (by have := HB8.out.size; omega)
        go_wp2_with fail
        refine (KB1.out _ (by (repeat (first | (with_reducible exact Below.refl _ _) | (with_reducible assumption) | (with_reducible exact Hid.out (by with_reducible assumption)) | (with_reducible refine Below.alloc ?_ ?_ _) | (with_reducible refine Below.setCell ?_ ?_ _) | (with_reducible refine below_drewN ?_ _) | (with_reducible refine Below.drew ?_) | (with_reducible refine below_via (by with_reducible assumption) ?_ ?_) | (first | (with_reducible assumption) | omega | (simp only [World.size_alloc, World.size_setCell, World.size_drew, World.heap_drewN] <;> omega) | (simp <;> omega)))))).mono ?_
        rintro e w10 ⟨rfl, hb10⟩
        have hz_w10 := hb10.size
        try simp only [World.size_alloc, World.size_setCell] at hz_w10
        have all_c : w10.cell? ⟨w.heap.size, 0, none⟩ = some (.int .i64 (SS : Int)) ∧ w10.cell? ⟨w.heap.size, 1, none⟩ = some (.slice awa alw awc) ∧ w10.cell? ⟨w.heap.size, 2, none⟩ = some (.slice aka alk akc) ∧ w10.cell? ⟨w.heap.size, 3, none⟩ = some (.slice ava alv avc) ∧ w10.cell? ⟨w.heap.size, 4, none⟩ = some (.slice aca alc acc) ∧ w10.cell? ⟨w.heap.size, 5, none⟩ = some (.int .u64 alaid) ∧ w10.cell? ⟨w.heap.size + 1, 0, none⟩ = some (.int .i64 bseg) ∧ w10.cell? ⟨w.heap.size + 1, 1, none⟩ = some (.slice bwa blw bwc) ∧ w10.cell? ⟨w.heap.size + 1, 2, none⟩ = some (.slice bka blk bkc) ∧ w10.cell? ⟨w.heap.size + 1, 3, none⟩ = some (.slice bva blv bvc) ∧ w10.cell? ⟨w.heap.size + 1, 4, none⟩ = some (.slice bca blc bcc) ∧ w10.cell? ⟨w.heap.size + 1, 5, none⟩ = some (.int .u64 blaid) := by refine ⟨?_, ?_, ?_, ?_, ?_, ?_, ?_, ?_, ?_, ?_, ?_, ?_⟩ <;> (refine (hb10.cell ?_).trans ?_ <;> first | (first | (with_reducible assumption) | omega | (simp only [World.size_alloc, World.size_setCell, World.size_drew, World.heap_drewN] <;> omega) | (simp <;> omega)) | (first | (with_reducible assumption) | ((try simp (disch := first | omega | (simp only [World.size_alloc, World.size_setCell, World.size_drew, World.heap_drewN] <;> omega) | fail) only [World.cell?_alloc_past, World.cell?_alloc_at, World.frozen?_alloc_past, World.frozen?_alloc_at, World.frozen?_setCell, World.cell?_drew, World.frozen?_drew]) <;> first | (with_reducible assumption) | rfl)))
        have all_z : w.heap.size < w10.heap.size ∧ w.heap.size + 1 < w10.heap.size := by refine ⟨?_, ?_⟩ <;> (omega)
        clear c_a0 c_a1 c_a2 c_a3 c_a4 c_a5 c_b0 c_b1 c_b2 c_b3 c_b4 c_b5 z_a z_b
        obtain ⟨c_a0, c_a1, c_a2, c_a3, c_a4, c_a5, c_b0, c_b1, c_b2, c_b3, c_b4, c_b5⟩ := all_c
        try clear all_c
        obtain ⟨z_a, z_b⟩ := all_z
        try clear all_z
        have HB10 : Hid (Below w8.heap.size w8 w10) := Lib.hid (by (repeat (first | (with_reducible exact Below.refl _ _) | (with_reducible assumption) | (with_reducible exact Hid.out (by with_reducible assumption)) | (with_reducible refine Below.alloc ?_ ?_ _) | (with_reducible refine Below.setCell ?_ ?_ _) | (with_reducible refine below_drewN ?_ _) | (with_reducible refine Below.drew ?_) | (with_reducible refine below_via (by with_reducible assumption) ?_ ?_) | (first | (with_reducible assumption) | omega | (simp only [World.size_alloc, World.size_setCell, World.size_drew, World.heap_drewN] <;> omega) | (simp <;> omega)))))
        clear hb9 hb10 hB9 hBB
        go_wp2
        go_roundg (gk - 1)
        case measure => have := HK.out; omega
        case rel => exact ⟨k + 1, by omega, by have := HK.out; omega, by rw [HS1.out], by go_num, Lib.hid (HB10.out.alloc (HB10.out.size) _)⟩
      | true =>
        rw [hsk, Bool.true_and] at hst
        by_cases hek : ek = fk
        · subst hek
          obtain rfl : s1 = true := by rw [hst]; simp
          clear hst
          go_wp2_with fail
          refine (KA1.out _ hBr).mono ?_
          rintro e w9 ⟨rfl, hb9⟩
          have hz_w9 := hb9.size
          try simp only [World.size_alloc, World.size_setCell] at hz_w9
          have all_c : w9.cell? ⟨w.heap.size, 0, none⟩ = some (.int .i64 (SS : Int)) ∧ w9.cell? ⟨w.heap.size, 1, none⟩ = some (.slice awa alw awc) ∧ w9.cell? ⟨w.heap.size, 2, none⟩ = some (.slice aka alk akc) ∧ w9.cell? ⟨w.heap.size, 3, none⟩ = some (.slice ava alv avc) ∧ w9.cell? ⟨w.heap.size, 4, none⟩ = some (.slice aca alc acc) ∧ w9.cell? ⟨w.heap.size, 5, none⟩ = some (.int .u64 alaid) ∧ w9.cell? ⟨w.heap.size + 1, 0, none⟩ = some (.int .i64 bseg) ∧ w9.cell? ⟨w.heap.size + 1, 1, none⟩ = some (.slice bwa blw bwc) ∧ w9.cell? ⟨w.heap.size + 1, 2, none⟩ = some (.slice bka blk bkc) ∧ w9.cell? ⟨w.heap.size + 1, 3, none⟩ = some (.slice bva blv bvc) ∧ w9.cell? ⟨w.heap.size + 1, 4, none⟩ = some (.slice bca blc bcc) ∧ w9.cell? ⟨w.heap.size + 1, 5, none⟩ = some (.int .u64 blaid) := by refine ⟨?_, ?_, ?_, ?_, ?_, ?_, ?_, ?_, ?_, ?_, ?_, ?_⟩ <;> (refine (hb9.cell ?_).trans ?_ <;> first | (first | (with_reducible assumption) | omega | (simp only [World.size_alloc, World.size_setCell, World.size_drew, World.heap_drewN] <;> omega) | (simp <;> omega)) | (first | (with_reducible assumption) | ((try simp (disch := first | omega | (simp only [World.size_alloc, World.size_setCell, World.size_drew, World.heap_drewN] <;> omega) | fail) only [World.cell?_alloc_past, World.cell?_alloc_at, World.frozen?_alloc_past, World.frozen?_alloc_at, World.frozen?_setCell, World.cell?_drew, World.frozen?_drew]) <;> first | (with_reducible assumption) | rfl)))
          have all_z : w.heap.size < w9.heap.size ∧ w.heap.size + 1 < w9.heap.size := by refine ⟨?_, ?_⟩ <;> (omega)
          clear c_a0 c_a1 c_a2 c_a3 c_a4 c_a5 c_b0 c_b1 c_b2 c_b3 c_b4 c_b5 z_a z_b
          obtain ⟨c_a0, c_a1, c_a2, c_a3, c_a4, c_a5, c_b0, c_b1, c_b2, c_b3, c_b4, c_b5⟩ := all_c
          try clear all_c
          obtain ⟨z_a, z_b⟩ := all_z
          try clear all_z
          have hB9 : Below w8.heap.size w8 w9 := below_via hb9 HBr.out (by omega)
          have hBB := below_via hB9 HB8.out (by have := HB8.out.size; omega)
          go_wp2_with fail
          refine (KB1.out _ (by (repeat (first | (with_reducible exact Below.refl _ _) | (with_reducible assumption) | (with_reducible exact Hid.out (by with_reducible assumption)) | (with_reducible refine Below.alloc ?_ ?_ _) | (with_reducible refine Below.setCell ?_ ?_ _) | (with_reducible refine below_drewN ?_ _) | (with_reducible refine Below.drew ?_) | (with_reducible refine below_via (by with_reducible assumption) ?_ ?_) | (first | (with_reducible assumption) | omega | (simp only [World.size_alloc, World.size_setCell, World.size_drew, World.heap_drewN] <;> omega) | (simp <;> omega)))))).mono ?_
          rintro e w10 ⟨rfl, hb10⟩
          have hz_w10 := hb10.size
          try simp only [World.size_alloc, World.size_setCell] at hz_w10
          have all_c : w10.cell? ⟨w.heap.size, 0, none⟩ = some (.int .i64 (SS : Int)) ∧ w10.cell? ⟨w.heap.size, 1, none⟩ = some (.slice awa alw awc) ∧ w10.cell? ⟨w.heap.size, 2, none⟩ = some (.slice aka alk akc) ∧ w10.cell? ⟨w.heap.size, 3, none⟩ = some (.slice ava alv avc) ∧ w10.cell? ⟨w.heap.size, 4, none⟩ = some (.slice aca alc acc) ∧ w10.cell? ⟨w.heap.size, 5, none⟩ = some (.int .u64 alaid) ∧ w10.cell? ⟨w.heap.size + 1, 0, none⟩ = some (.int .i64 bseg) ∧ w10.cell? ⟨w.heap.size + 1, 1, none⟩ = some (.slice bwa blw bwc) ∧ w10.cell? ⟨w.heap.size + 1, 2, none⟩ = some (.slice bka blk bkc) ∧ w10.cell? ⟨w.heap.size + 1, 3, none⟩ = some (.slice bva blv bvc) ∧ w10.cell? ⟨w.heap.size + 1, 4, none⟩ = some (.slice bca blc bcc) ∧ w10.cell? ⟨w.heap.size + 1, 5, none⟩ = some (.int .u64 blaid) := by refine ⟨?_, ?_, ?_, ?_, ?_, ?_, ?_, ?_, ?_, ?_, ?_, ?_⟩ <;> (refine (hb10.cell ?_).trans ?_ <;> first | (first | (with_reducible assumption) | omega | (simp only [World.size_alloc, World.size_setCell, World.size_drew, World.heap_drewN] <;> omega) | (simp <;> omega)) | (first | (with_reducible assumption) | ((try simp (disch := first | omega | (simp only [World.size_alloc, World.size_setCell, World.size_drew, World.heap_drewN] <;> omega) | fail) only [World.cell?_alloc_past, World.cell?_alloc_at, World.frozen?_alloc_past, World.frozen?_alloc_at, World.frozen?_setCell, World.cell?_drew, World.frozen?_drew]) <;> first | (with_reducible assumption) | rfl)))
          have all_z : w.heap.size < w10.heap.size ∧ w.heap.size + 1 < w10.heap.size := by refine ⟨?_, ?_⟩ <;> (omega)
          clear c_a0 c_a1 c_a2 c_a3 c_a4 c_a5 c_b0 c_b1 c_b2 c_b3 c_b4 c_b5 z_a z_b
          obtain ⟨c_a0, c_a1, c_a2, c_a3, c_a4, c_a5, c_b0, c_b1, c_b2, c_b3, c_b4, c_b5⟩ := all_c
          try clear all_c
          obtain ⟨z_a, z_b⟩ := all_z
          try clear all_z
          have HB10 : Hid (Below w8.heap.size w8 w10) := Lib.hid (by (repeat (first | (with_reducible exact Below.refl _ _) | (with_reducible assumption) | (with_reducible exact Hid.out (by with_reducible assumption)) | (with_reducible refine Below.alloc ?_ ?_ _) | (with_reducible refine Below.setCell ?_ ?_ _) | (with_reducible refine below_drewN ?_ _) | (with_reducible refine Below.drew ?_) | (with_reducible refine below_via (by with_reducible assumption) ?_ ?_) | (first | (with_reducible assumption) | omega | (simp only [World.size_alloc, World.size_setCell, World.size_drew, World.heap_drewN] <;> omega) | (simp <;> omega)))))
          clear hb9 hb10 hB9 hBB
          go_wp2
          go_roundg (gk - 1)
          case measure => have := HK.out; omega
          case rel => exact ⟨k + 1, by omega, by have := HK.out; omega, by rw [HS1.out], by go_num, Lib.hid (HB10.out.alloc (HB10.out.size) _)⟩
        · have g1 : (ek == fk) = false := by simpa using hek
          obtain rfl : s1 = false := by rw [hst, g1]
          clear hst hek
          go_wp2_with fail
          refine (KA1.out _ hBr).mono ?_
          rintro e w9 ⟨rfl, hb9⟩
          have hz_w9 := hb9.size
          try simp only [World.size_alloc, World.size_setCell] at hz_w9
          have all_c : w9.cell? ⟨w.heap.size, 0, none⟩ = some (.int .i64 (SS : Int)) ∧ w9.cell? ⟨w.heap.size, 1, none⟩ = some (.slice awa alw awc) ∧ w9.cell? ⟨w.heap.size, 2, none⟩ = some (.slice aka alk akc) ∧ w9.cell? ⟨w.heap.size, 3, none⟩ = some (.slice ava alv avc) ∧ w9.cell? ⟨w.heap.size, 4, none⟩ = some (.slice aca alc acc) ∧ w9.cell? ⟨w.heap.size, 5, none⟩ = some (.int .u64 alaid) ∧ w9.cell? ⟨w.heap.size + 1, 0, none⟩ = some (.int .i64 bseg) ∧ w9.cell? ⟨w.heap.size + 1, 1, none⟩ = some (.slice bwa blw bwc) ∧ w9.cell? ⟨w.heap.size + 1, 2, none⟩ = some (.slice bka blk bkc) ∧ w9.cell? ⟨w.heap.size + 1, 3, none⟩ = some (.slice bva blv bvc) ∧ w9.cell? ⟨w.heap.size + 1, 4, none⟩ = some (.slice bca blc bcc) ∧ w9.cell? ⟨w.heap.size + 1, 5, none⟩ = some (.int .u64 blaid) := by refine ⟨?_, ?_, ?_, ?_, ?_, ?_, ?_, ?_, ?_, ?_, ?_, ?_⟩ <;> (refine (hb9.cell ?_).trans ?_ <;> first | (first | (with_reducible assumption) | omega | (simp only [World.size_alloc, World.size_setCell, World.size_drew, World.heap_drewN] <;> omega) | (simp <;> omega)) | (first | (with_reducible assumption) | ((try simp (disch := first | omega | (simp only [World.size_alloc, World.size_setCell, World.size_drew, World.heap_drewN] <;> omega) | fail) only [World.cell?_alloc_past, World.cell?_alloc_at, World.frozen?_alloc_past, World.frozen?_alloc_at, World.frozen?_setCell, World.cell?_drew, World.frozen?_drew]) <;> first | (with_reducible assumption) | rfl)))
          have all_z : w.heap.size < w9.heap.size ∧ w.heap.size + 1 < w9.heap.size := by refine ⟨?_, ?_⟩ <;> (omega)
          clear c_a0 c_a1 c_a2 c_a3 c_a4 c_a5 c_b0 c_b1 c_b2 c_b3 c_b4 c_b5 z_a z_b
          obtain ⟨c_a0, c_a1, c_a2, c_a3, c_a4, c_a5, c_b0, c_b1, c_b2, c_b3, c_b4, c_b5⟩ := all_c
          try clear all_c
          obtain ⟨z_a, z_b⟩ := all_z
          try clear all_z
          have hB9 : Below w8.heap.size w8 w9 := below_via hb9 HBr.out (by omega)
          have hBB := below_via hB9 HB8.out (by have := HB8.out.size; omega)
          go_wp2_with fail
          refine (KB1.out _ (by (repeat (first | (with_reducible exact Below.refl _ _) | (with_reducible assumption) | (with_reducible exact Hid.out (by with_reducible assumption)) | (with_reducible refine Below.alloc ?_ ?_ _) | (with_reducible refine Below.setCell ?_ ?_ _) | (with_reducible refine below_drewN ?_ _) | (with_reducible refine Below.drew ?_) | (with_reducible refine below_via (by with_reducible assumption) ?_ ?_) | (first | (with_reducible assumption) | omega | (simp only [World.size_alloc, World.size_setCell, World.size_drew, World.heap_drewN] <;> omega) | (simp <;> omega)))))).mono ?_
          rintro e w10 ⟨rfl, hb10⟩
          have hz_w10 := hb10.size
          try simp only [World.size_alloc, World.size_setCell] at hz_w10
          have all_c : w10.cell? ⟨w.heap.size, 0, none⟩ = some (.int .i64 (SS : Int)) ∧ w10.cell? ⟨w.heap.size, 1, none⟩ = some (.slice awa alw awc) ∧ w10.cell? ⟨w.heap.size, 2, none⟩ = some (.slice aka alk akc) ∧ w10.cell? ⟨w.heap.size, 3, none⟩ = some (.slice ava alv avc) ∧ w10.cell? ⟨w.heap.size, 4, none⟩ = some (.slice aca alc acc) ∧ w10.cell? ⟨w.heap.size, 5, none⟩ = some (.int .u64 alaid) ∧ w10.cell? ⟨w.heap.size + 1, 0, none⟩ = some (.int .i64 bseg) ∧ w10.cell? ⟨w.heap.size + 1, 1, none⟩ = some (.slice bwa blw bwc) ∧ w10.cell? ⟨w.heap.size + 1, 2, none⟩ = some (.slice bka blk bkc) ∧ w10.cell? ⟨w.heap.size + 1, 3, none⟩ = some (.slice bva blv bvc) ∧ w10.cell? ⟨w.heap.size + 1, 4, none⟩ = some (.slice bca blc bcc) ∧ w10.cell? ⟨w.heap.size + 1, 5, none⟩ = some (.int .u64 blaid) := by refine ⟨?_, ?_, ?_, ?_, ?_, ?_, ?_, ?_, ?_, ?_, ?_, ?_⟩ <;> (refine (hb10.cell ?_).trans ?_ <;> first | (first | (with_reducible assumption) | omega | (simp only [World.size_alloc, World.size_setCell, World.size_drew, World.heap_drewN] <;> omega) | (simp <;> omega)) | (first | (with_reducible assumption) | ((try simp (disch := first | omega | (simp only [World.size_alloc, World.size_setCell, World.size_drew, World.heap_drewN] <;> omega) | fail) only [World.cell?_alloc_past, World.cell?_alloc_at, World.frozen?_alloc_past, World.frozen?_alloc_at, World.frozen?_setCell, World.cell?_drew, World.frozen?_drew]) <;> first | (with_reducible assumption) | rfl)))
          have all_z : w.heap.size < w10.heap.size ∧ w.heap.size + 1 < w10.heap.size := by refine ⟨?_, ?_⟩ <;> (omega)
          clear c_a0 c_a1 c_a2 c_a3 c_a4 c_a5 c_b0 c_b1 c_b2 c_b3 c_b4 c_b5 z_a z_b
          obtain ⟨c_a0, c_a1, c_a2, c_a3, c_a4, c_a5, c_b0, c_b1, c_b2, c_b3, c_b4, c_b5⟩ := all_c
          try clear all_c
          obtain ⟨z_a, z_b⟩ := all_z
          try clear all_z
          have HB10 : Hid (Below w8.heap.size w8 w10) := Lib.hid (by (repeat (first | (with_reducible exact Below.refl _ _) | (with_reducible assumption) | (with_reducible exact Hid.out (by with_reducible assumption)) | (with_reducible refine Below.alloc ?_ ?_ _) | (with_reducible refine Below.setCell ?_ ?_ _) | (with_reducible refine below_drewN ?_ _) | (with_reducible refine Below.drew ?_) | (with_reducible refine below_via (by with_reducible assumption) ?_ ?_) | (first | (with_reducible assumption) | omega | (simp only [World.size_alloc, World.size_setCell, World.size_drew, World.heap_drewN] <;> omega) | (simp <;> omega)))))
          clear hb9 hb10 hB9 hBB
          go_wp2
          go_roundg (gk - 1)
          case measure => have := HK.out; omega
          case rel => exact ⟨k + 1, by omega, by have := HK.out; omega, by rw [HS1.out], by go_num, Lib.hid (HB10.out.alloc (HB10.out.size) _)⟩
    · obtain rfl : k = hi := by omega
      rw [HEND.out]
      have HBB := Lib.hid hBr
      clear hBr
      go_wp2
      go_ret
      exact ⟨rfl, HBB.out⟩

set_option maxRecDepth 100000 in
set_option maxHeartbeats 1000000 in
theorem MendInside_walk (w : World) (c : SlC) (a : SlA) (hin : SlIn w c a) (q1 : c.ks.length ≤ a.kc) (q2 : c.vs.length ≤ a.vc) (d : SlC) (b : SlA) (hin2 : SlIn w d b) (q3 : d.ks.length ≤ b.kc) (q4 : d.vs.length ≤ b.vc) (at_ : Int) :
    Calls Try.prog 6 #[slV c a, slV d b, .int .i64 at_] w fun e w' => e = .returned (.bool true) ∧ Below w.heap.size w w' := by
  have G4 : ∀ (c : SlC) (a : SlA), Hid (∀ W, Calls Try.prog 10 #[slV c a, .int .i64 600] W (AnsB W (.bool (gr4 600 c.ks.length c.vs.length c.ws.length c.cs.length)))) := fun c a => Lib.hid (fun W => Great04_ok c.seg a.wa a.ka a.va a.ca a.wc a.kc a.vc a.cc c.ws.length c.ks.length c.vs.length c.cs.length c.laid 600 W)
  have g1 := G4 c a
  have g2 := G4 d b
  by_cases h2 : c.ws.length ≤ 600 ∧ c.ks.length ≤ 600 ∧ c.vs.length ≤ 600 ∧ c.cs.length ≤ 600
  · rw [show gr4 600 c.ks.length c.vs.length c.ws.length c.cs.length = false by simp [gr4]; omega] at g1
    by_cases h3 : d.ws.length ≤ 600 ∧ d.ks.length ≤ 600 ∧ d.vs.length ≤ 600 ∧ d.cs.length ≤ 600
    · rw [show gr4 600 d.ks.length d.vs.length d.ws.length d.cs.length = false by simp [gr4]; omega] at g2
      have TU := Lib.hid (fun W (hb : Below w.heap.size w W) => Turned_ok c d a b (by omega) (by omega) (by omega) (by omega) W (hin.below hb) (hin2.below hb) q1 q2 q3 q4)
      have TA := Lib.hid (fun W (hb : Below w.heap.size w W) => At4_ok c a (by omega) (by omega) at_ W (hin.below hb))
      have TB := Lib.hid (fun W (hb : Below w.heap.size w W) => At4_ok d b (by omega) (by omega) at_ W (hin2.below hb))
      by_cases e3 : tuE c d = 0
      · have e4 : tuV c d = (((tuF c d c.seg.toNat c.cs.length : Nat) : Int), ((tuT c d c.seg.toNat c.cs.length : Nat) : Int), 0) := if_pos e3
        rw [e4] at TU
        have hsd := tu_same e3
        have hmm : slMay c = true ∧ slMay d = true := by
          unfold tuE at e3
          split at e3
          · rename_i hm1
            split at e3
            · rename_i hm2
              exact ⟨hm1, hm2⟩
            · cases e3
          · cases e3
        obtain ⟨S, M, hS, hS4, hS64, hnk, hnv, hcs, hM1, hSM, -, hnw, -, -, -⟩ := slHead_facts (slMay_head hmm.1)
        have hSt : c.seg.toNat = S := by omega
        rw [hSt, hcs] at TU
        have hbd := tu_bd c d S M
        by_cases i0 : 0 ≤ at_
        · by_cases i1 : at_ < c.ks.length
          · obtain ⟨i, rfl⟩ : ∃ i : Nat, at_ = i := ⟨at_.toNat, by omega⟩
            by_cases hd : atS c i = atS d i
            · rw [hd] at TA
              by_cases hFT : tuF c d S M = tuT c d S M
              · have z := tu_none hFT
                rw [← hFT, z] at TU
                exact MI_none c.seg a.wa a.ka a.va a.ca a.wc a.kc a.vc a.cc c.ws.length c.ks.length c.vs.length c.cs.length c.laid d.seg b.wa b.ka b.va b.ca b.wc b.kc b.vc b.cc d.ws.length d.ks.length d.vs.length d.cs.length d.laid i w _ _ _ (by omega) i0 i1 g1 g2 TU TA TB
              · have hlt : tuF c d S M < tuT c d S M := by omega
                have hal := tu_first hlt
                generalize tuF c d S M = F at *
                generalize tuT c d S M = Tt at *
                have hhi : (F + 1) * S ≤ c.ks.length := by
                  rw [hnk, Nat.mul_comm]
                  exact Nat.mul_le_mul_left S (by omega)
                have hlh : F * S ≤ (F + 1) * S := Nat.mul_le_mul_right S (by omega)
                have hns := not_sm hmm.1 hmm.2 hsd.2 hhi hal
                have hn' : ((F : Int) * S = ((F * S : Nat) : Int)) ∧ (((F : Int) + 1) * S = (((F + 1) * S : Nat) : Int)) := by constructor <;> push_cast <;> rfl
                have hhi2 : (F + 1) * S ≤ 600 := by omega
                generalize F * S = lo at *
                generalize (F + 1) * S = hi at *
                have PRS : ∀ (c : SlC) (a : SlA), slMay c = true → c.ws.length ≤ 600 → hi ≤ c.ks.length → c.ks.length ≤ 600 → SlIn w c a → Hid (∀ W, Below w.heap.size w W → Calls Try.prog 26 #[slV c a, .int .i64 lo, .int .i64 hi] W (FreshPr2 W (prs c lo hi) (.int .i64 0))) := fun c a hm l1 l2 l3 hin => Lib.hid fun W hb => by
                  have := Pairs_ok c a (by omega) (by omega) (lo : Int) (hi : Int) W (hin.below hb)
                  have he : partE c (lo : Int) (hi : Int) = 0 := by rw [partE, if_pos hm, if_pos ⟨by omega, by omega, by omega⟩]
                  rw [prsR, if_pos he, he, Int.toNat_natCast, Int.toNat_natCast] at this
                  exact this
                have P1 := PRS c a hmm.1 h2.1 hhi h2.2.1 hin
                have P2 := PRS d b hmm.2 h3.1 (by omega) h3.2.1 hin2
                have hl1 : (prs c lo hi).length ≤ 1000000000 := by rw [prs_length]; have := cntW_le c.ws lo hi; omega
                have SP : Hid (∀ p q cp cq W, IsRow .i64 W p (prI (prs c lo hi)) → IsRow .i64 W q (prI (prs d lo hi)) → Calls Try.prog 27 #[.slice p (prs c lo hi).length cp, .slice q (prs d lo hi).length cq] W (AnsB W (.bool (decide (prs c lo hi = prs d lo hi))))) := Lib.hid fun p q cp cq W k1 k2 => SamePairs_ok p q cp cq _ _ W k1 k2 hl1
                obtain ⟨s0, hs0⟩ : ∃ s, decide (prs c lo hi = prs d lo hi) = s := ⟨_, rfl⟩
                rw [hs0] at hns SP
                generalize prs c lo hi = l1 at *
                generalize prs d lo hi = l2 at *
                have hst := smB_start (c := c) (d := d) (lo := lo) (s := s0)
                have hsm : ∀ k, lo ≤ k → smB c d lo (k + 1) s0 = (smB c d lo k s0 && ((atS c k).2.2 == (atS d k).2.2)) := fun k k1 => smB_step k1
                obtain ⟨sm, hsmf⟩ : ∃ f : Nat → Bool, ∀ k, smB c d lo k s0 = f k := ⟨_, fun _ => rfl⟩
                obtain ⟨pa, hpa⟩ : ∃ f : Nat → Int, ∀ k : Nat, (atS c k).1 = f k := ⟨fun k => (atS c k).1, fun _ => rfl⟩
                obtain ⟨pb, hpb⟩ : ∃ f : Nat → Int, ∀ k : Nat, (atS c k).2.1 = f k := ⟨fun k => (atS c k).2.1, fun _ => rfl⟩
                obtain ⟨ea, hea⟩ : ∃ f : Nat → Int, ∀ k : Nat, (atS c k).2.2 = f k := ⟨fun k => (atS c k).2.2, fun _ => rfl⟩
                obtain ⟨qa, hqa⟩ : ∃ f : Nat → Int, ∀ k : Nat, (atS d k).1 = f k := ⟨fun k => (atS d k).1, fun _ => rfl⟩
                obtain ⟨qb, hqb⟩ : ∃ f : Nat → Int, ∀ k : Nat, (atS d k).2.1 = f k := ⟨fun k => (atS d k).2.1, fun _ => rfl⟩
                obtain ⟨eb, heb⟩ : ∃ f : Nat → Int, ∀ k : Nat, (atS d k).2.2 = f k := ⟨fun k => (atS d k).2.2, fun _ => rfl⟩
                rw [hsmf] at hst hns
                have hsm' : ∀ k, lo ≤ k → k < hi → sm (k + 1) = (sm k && (ea k == eb k)) := fun k k1 _ => by have := hsm k k1; rw [hsmf, hsmf, hea, heb] at this; exact this
                have KA : Hid (∀ (k : Nat) (_ : lo ≤ k) (_ : k < hi) W, Below w.heap.size w W → Calls Try.prog 25 #[slV c a, .int .i64 k] W (AnsB W (.tuple #[.agg #[.int .i64 (pa k), .int .i64 (pb k)], .int .i64 (ea k)]))) := Lib.hid fun k k1 k2 W hb => by have := At4_ok c a (by omega) (by omega) (k : Int) W (hin.below hb); rw [hpa, hpb, hea] at this; exact this
                have KB : Hid (∀ (k : Nat) (_ : lo ≤ k) (_ : k < hi) W, Below w.heap.size w W → Calls Try.prog 25 #[slV d b, .int .i64 k] W (AnsB W (.tuple #[.agg #[.int .i64 (qa k), .int .i64 (qb k)], .int .i64 (eb k)]))) := Lib.hid fun k k1 k2 W hb => by have := At4_ok d b (by omega) (by omega) (k : Int) W (hin2.below hb); rw [hqa, hqb, heb] at this; exact this
                generalize (atS d i).1 = x1 at *
                generalize (atS d i).2.1 = x2 at *
                generalize (atS d i).2.2 = x3 at *
                have hlh' : lo ≤ hi := hlh
                have hSe := hS
                have hTM : Tt ≤ c.cs.length := by omega
                have hC6 := h2.2.2.2
                clear hin hin2 PRS hsm hsmf hpa hpb hea hqa hqb heb h2 h3 hmm hsd hal hd hbd G4 q1 q2 q3 q4 hs0
                obtain ⟨cseg, cws, cks, cvs, ccs, claid⟩ := c
                obtain ⟨dseg, dws, dks, dvs, dcs, dlaid⟩ := d
                obtain ⟨awa, aka, ava, aca, awc, akc, avc, acc⟩ := a
                obtain ⟨bwa, bka, bva, bca, bwc, bkc, bvc, bcc⟩ := b
                dsimp only [slV] at *
                subst hSe
                exact MI_seg awa aka ava aca awc akc avc acc cws.length cks.length cvs.length ccs.length claid dseg bwa bka bva bca bwc bkc bvc bcc dws.length dks.length dvs.length dcs.length dlaid i S w x1 x2 x3 F Tt lo hi l1 l2 s0 sm pa pb ea qa qb eb hS4 i0 i1 hlt hTM hC6 hS64 hn'.1 hn'.2 hlh' hhi2 hst hns (Lib.hid hsm') g1 g2 TU TA TB KA KB P1 P2 SP
            · obtain ⟨z1, z2⟩ := at_between hmm.1 hmm.2 hsd.2 (by omega) hnk (by omega) hd
              have hq : (i : Int).tdiv c.seg = ((i / S : Nat) : Int) := by rw [hS]; exact (Int.ofNat_tdiv i S).symm
              have hqb : i / S ≤ i := Nat.div_le_self _ _
              have hQ : ((tuF c d S M : Nat) : Int) ≤ ((i / S : Nat) : Int) ∧ ((i / S : Nat) : Int) < ((tuT c d S M : Nat) : Int) ∧ ((i / S : Nat) : Int) ≤ 65536 := ⟨by omega, by omega, by omega⟩
              by_cases d1 : (atS c i).1 = (atS d i).1
              · by_cases d2 : (atS c i).2.1 = (atS d i).2.1
                · have d3 : (atS c i).2.2 ≠ (atS d i).2.2 := fun h => hd (Prod.ext d1 (Prod.ext d2 h))
                  rw [d1, d2] at TA
                  exact MI_diff3 c.seg a.wa a.ka a.va a.ca a.wc a.kc a.vc a.cc c.ws.length c.ks.length c.vs.length c.cs.length c.laid d.seg b.wa b.ka b.va b.ca b.wc b.kc b.vc b.cc d.ws.length d.ks.length d.vs.length d.cs.length d.laid i w _ _ _ _ _ _ _ (by omega) i0 i1 hq hQ d3 g1 g2 TU TA TB
                · rw [d1] at TA
                  exact MI_diff2 c.seg a.wa a.ka a.va a.ca a.wc a.kc a.vc a.cc c.ws.length c.ks.length c.vs.length c.cs.length c.laid d.seg b.wa b.ka b.va b.ca b.wc b.kc b.vc b.cc d.ws.length d.ks.length d.vs.length d.cs.length d.laid i w _ _ _ _ _ _ _ _ (by omega) i0 i1 hq hQ d2 g1 g2 TU TA TB
              · exact MI_diff1 c.seg a.wa a.ka a.va a.ca a.wc a.kc a.vc a.cc c.ws.length c.ks.length c.vs.length c.cs.length c.laid d.seg b.wa b.ka b.va b.ca b.wc b.kc b.vc b.cc d.ws.length d.ks.length d.vs.length d.cs.length d.laid i w _ _ _ _ _ _ _ _ _ (by omega) i0 i1 hq hQ d1 g1 g2 TU TA TB
          · exact MI_far c.seg a.wa a.ka a.va a.ca a.wc a.kc a.vc a.cc c.ws.length c.ks.length c.vs.length c.cs.length c.laid d.seg b.wa b.ka b.va b.ca b.wc b.kc b.vc b.cc d.ws.length d.ks.length d.vs.length d.cs.length d.laid at_ w _ _ _ _ _ _ _ _ (by omega) i0 (by omega) g1 g2 TU TA TB
        · exact MI_neg c.seg a.wa a.ka a.va a.ca a.wc a.kc a.vc a.cc c.ws.length c.ks.length c.vs.length c.cs.length c.laid d.seg b.wa b.ka b.va b.ca b.wc b.kc b.vc b.cc d.ws.length d.ks.length d.vs.length d.cs.length d.laid at_ w _ _ _ _ _ _ _ _ (by omega) (by omega) g1 g2 TU TA TB
      · rw [show tuV c d = (0, 0, tuE c d) from if_neg e3] at TU
        exact MI_bad c.seg a.wa a.ka a.va a.ca a.wc a.kc a.vc a.cc c.ws.length c.ks.length c.vs.length c.cs.length c.laid d.seg b.wa b.ka b.va b.ca b.wc b.kc b.vc b.cc d.ws.length d.ks.length d.vs.length d.cs.length d.laid at_ w _ _ _ _ _ _ _ e3 g1 g2 TU TA TB
    · rw [show gr4 600 d.ks.length d.vs.length d.ws.length d.cs.length = true by simp [gr4]; omega] at g2
      exact MI_great2 c.seg a.wa a.ka a.va a.ca a.wc a.kc a.vc a.cc c.ws.length c.ks.length c.vs.length c.cs.length c.laid d.seg b.wa b.ka b.va b.ca b.wc b.kc b.vc b.cc d.ws.length d.ks.length d.vs.length d.cs.length d.laid at_ w g1 g2
  · rw [show gr4 600 c.ks.length c.vs.length c.ws.length c.cs.length = true by simp [gr4]; omega] at g1
    exact MI_great1 c.seg a.wa a.ka a.va a.ca a.wc a.kc a.vc a.cc c.ws.length c.ks.length c.vs.length c.cs.length c.laid d.seg b.wa b.ka b.va b.ca b.wc b.kc b.vc b.cc d.ws.length d.ks.length d.vs.length d.cs.length d.laid at_ w g1
end Go.Proofs.Ytbmibaafkgleeaa
