/-
  MendAround: a window of segments around all that was turned makes an index that of the array as it is now; a window of none turns nothing.
  No condition.
-/
import Derived.Test.YtbmibaafkgleeaaAlive20
import Derived.Test.YtbmibaafkgleeaaTuLaw
import Derived.Test.YtbmibaafkgleeaaIdxFns
namespace Go.Proofs.Ytbmibaafkgleeaa
open Go.RowKit
set_option linter.unusedVariables false
set_option linter.unusedSimpArgs false

theorem MA_great1 (aseg : Int) (awa aka ava aca : Option Addr) (awc akc avc acc alw alk alv alc : Nat) (alaid : Int) (bseg : Int) (bwa bka bva bca : Option Addr) (bwc bkc bvc bcc blw blk blv blc : Nat) (blaid : Int) (lf rt : Int) (w : World) (G1 : Hid (∀ W, Calls Try.prog 10 #[.agg #[.int .i64 aseg, .slice awa alw awc, .slice aka alk akc, .slice ava alv avc, .slice aca alc acc, .int .u64 alaid], .int .i64 600] W (AnsB W (.bool true)))) :
    Calls Try.prog 5 #[.agg #[.int .i64 aseg, .slice awa alw awc, .slice aka alk akc, .slice ava alv avc, .slice aca alc acc, .int .u64 alaid], .agg #[.int .i64 bseg, .slice bwa blw bwc, .slice bka blk bkc, .slice bva blv bvc, .slice bca blc bcc, .int .u64 blaid], .int .u8 lf, .int .u8 rt] w (AnsB w (.bool true)) := by
  have AL := Lib.hid alive20_ok
  go_enter Try.func5, Try.ntmps5
  go_wp2_with fail
  refine (AL.out _).mono ?_
  rintro e w1 ⟨rfl, hb1⟩
  have hz_w1 := hb1.size
  try simp only [World.size_alloc, World.size_setCell] at hz_w1
  have all_c : w1.cell? ⟨w.heap.size, 0, none⟩ = some (.int .i64 aseg) ∧ w1.cell? ⟨w.heap.size, 1, none⟩ = some (.slice awa alw awc) ∧ w1.cell? ⟨w.heap.size, 2, none⟩ = some (.slice aka alk akc) ∧ w1.cell? ⟨w.heap.size, 3, none⟩ = some (.slice ava alv avc) ∧ w1.cell? ⟨w.heap.size, 4, none⟩ = some (.slice aca alc acc) ∧ w1.cell? ⟨w.heap.size, 5, none⟩ = some (.int .u64 alaid) ∧ w1.cell? ⟨w.heap.size + 1, 0, none⟩ = some (.int .i64 bseg) ∧ w1.cell? ⟨w.heap.size + 1, 1, none⟩ = some (.slice bwa blw bwc) ∧ w1.cell? ⟨w.heap.size + 1, 2, none⟩ = some (.slice bka blk bkc) ∧ w1.cell? ⟨w.heap.size + 1, 3, none⟩ = some (.slice bva blv bvc) ∧ w1.cell? ⟨w.heap.size + 1, 4, none⟩ = some (.slice bca blc bcc) ∧ w1.cell? ⟨w.heap.size + 1, 5, none⟩ = some (.int .u64 blaid) := by refine ⟨?_, ?_, ?_, ?_, ?_, ?_, ?_, ?_, ?_, ?_, ?_, ?_⟩ <;> (refine (hb1.cell ?_).trans ?_ <;> first | (first | (with_reducible assumption) | omega | (simp only [World.size_alloc, World.size_setCell, World.size_drew, World.heap_drewN] <;> omega) | (simp <;> omega)) | (first | (with_reducible assumption) | ((try simp (disch := first | omega | (simp only [World.size_alloc, World.size_setCell, World.size_drew, World.heap_drewN] <;> omega) | fail) only [World.cell?_alloc_past, World.cell?_alloc_at, World.frozen?_alloc_past, World.frozen?_alloc_at, World.frozen?_setCell, World.cell?_drew, World.frozen?_drew]) <;> first | (with_reducible assumption) | rfl)))
  have all_z : w.heap.size < w1.heap.size ∧ w.heap.size + 1 < w1.heap.size := by refine ⟨?_, ?_⟩ <;> (omega)
  obtain ⟨c_a0, c_a1, c_a2, c_a3, c_a4, c_a5, c_b0, c_b1, c_b2, c_b3, c_b4, c_b5⟩ := all_c
  try clear all_c
  obtain ⟨z_a, z_b⟩ := all_z
  try clear all_z
  have hB1 : Below w.heap.size w w1 := by (repeat (first | (with_reducible exact Below.refl _ _) | (with_reducible assumption) | (with_reducible exact Hid.out (by with_reducible assumption)) | (with_reducible refine Below.alloc ?_ ?_ _) | (with_reducible refine Below.setCell ?_ ?_ _) | (with_reducible refine below_drewN ?_ _) | (with_reducible refine Below.drew ?_) | (with_reducible refine below_via (by with_reducible assumption) ?_ ?_) | (first | (with_reducible assumption) | omega | (simp only [World.size_alloc, World.size_setCell, World.size_drew, World.heap_drewN] <;> omega) | (simp <;> omega))))
  go_wp2_with fail
  refine (G1.out _).mono ?_
  rintro e v1 ⟨rfl, hv1⟩
  have hz_v1 := hv1.size
  try simp only [World.size_alloc, World.size_setCell] at hz_v1
  have hV1 : Below w.heap.size w v1 := by (repeat (first | (with_reducible exact Below.refl _ _) | (with_reducible assumption) | (with_reducible exact Hid.out (by with_reducible assumption)) | (with_reducible refine Below.alloc ?_ ?_ _) | (with_reducible refine Below.setCell ?_ ?_ _) | (with_reducible refine below_drewN ?_ _) | (with_reducible refine Below.drew ?_) | (with_reducible refine below_via (by with_reducible assumption) ?_ ?_) | (first | (with_reducible assumption) | omega | (simp only [World.size_alloc, World.size_setCell, World.size_drew, World.heap_drewN] <;> omega) | (simp <;> omega))))
  go_wp2
  go_ret
  exact ⟨rfl, hV1⟩

theorem MA_great2 (aseg : Int) (awa aka ava aca : Option Addr) (awc akc avc acc alw alk alv alc : Nat) (alaid : Int) (bseg : Int) (bwa bka bva bca : Option Addr) (bwc bkc bvc bcc blw blk blv blc : Nat) (blaid : Int) (lf rt : Int) (w : World) (G1 : Hid (∀ W, Calls Try.prog 10 #[.agg #[.int .i64 aseg, .slice awa alw awc, .slice aka alk akc, .slice ava alv avc, .slice aca alc acc, .int .u64 alaid], .int .i64 600] W (AnsB W (.bool false)))) (G2 : Hid (∀ W, Calls Try.prog 10 #[.agg #[.int .i64 bseg, .slice bwa blw bwc, .slice bka blk bkc, .slice bva blv bvc, .slice bca blc bcc, .int .u64 blaid], .int .i64 600] W (AnsB W (.bool true)))) :
    Calls Try.prog 5 #[.agg #[.int .i64 aseg, .slice awa alw awc, .slice aka alk akc, .slice ava alv avc, .slice aca alc acc, .int .u64 alaid], .agg #[.int .i64 bseg, .slice bwa blw bwc, .slice bka blk bkc, .slice bva blv bvc, .slice bca blc bcc, .int .u64 blaid], .int .u8 lf, .int .u8 rt] w (AnsB w (.bool true)) := by
  have AL := Lib.hid alive20_ok
  go_enter Try.func5, Try.ntmps5
  go_wp2_with fail
  refine (AL.out _).mono ?_
  rintro e w1 ⟨rfl, hb1⟩
  have hz_w1 := hb1.size
  try simp only [World.size_alloc, World.size_setCell] at hz_w1
  have all_c : w1.cell? ⟨w.heap.size, 0, none⟩ = some (.int .i64 aseg) ∧ w1.cell? ⟨w.heap.size, 1, none⟩ = some (.slice awa alw awc) ∧ w1.cell? ⟨w.heap.size, 2, none⟩ = some (.slice aka alk akc) ∧ w1.cell? ⟨w.heap.size, 3, none⟩ = some (.slice ava alv avc) ∧ w1.cell? ⟨w.heap.size, 4, none⟩ = some (.slice aca alc acc) ∧ w1.cell? ⟨w.heap.size, 5, none⟩ = some (.int .u64 alaid) ∧ w1.cell? ⟨w.heap.size + 1, 0, none⟩ = some (.int .i64 bseg) ∧ w1.cell? ⟨w.heap.size + 1, 1, none⟩ = some (.slice bwa blw bwc) ∧ w1.cell? ⟨w.heap.size + 1, 2, none⟩ = some (.slice bka blk bkc) ∧ w1.cell? ⟨w.heap.size + 1, 3, none⟩ = some (.slice bva blv bvc) ∧ w1.cell? ⟨w.heap.size + 1, 4, none⟩ = some (.slice bca blc bcc) ∧ w1.cell? ⟨w.heap.size + 1, 5, none⟩ = some (.int .u64 blaid) := by refine ⟨?_, ?_, ?_, ?_, ?_, ?_, ?_, ?_, ?_, ?_, ?_, ?_⟩ <;> (refine (hb1.cell ?_).trans ?_ <;> first | (first | (with_reducible assumption) | omega | (simp only [World.size_alloc, World.size_setCell, World.size_drew, World.heap_drewN] <;> omega) | (simp <;> omega)) | (first | (with_reducible assumption) | ((try simp (disch := first | omega | (simp only [World.size_alloc, World.size_setCell, World.size_drew, World.heap_drewN] <;> omega) | fail) only [World.cell?_alloc_past, World.cell?_alloc_at, World.frozen?_alloc_past, World.frozen?_alloc_at, World.frozen?_setCell, World.cell?_drew, World.frozen?_drew]) <;> first | (with_reducible assumption) | rfl)))
  have all_z : w.heap.size < w1.heap.size ∧ w.heap.size + 1 < w1.heap.size := by refine ⟨?_, ?_⟩ <;> (omega)
  obtain ⟨c_a0, c_a1, c_a2, c_a3, c_a4, c_a5, c_b0, c_b1, c_b2, c_b3, c_b4, c_b5⟩ := all_c
  try clear all_c
  obtain ⟨z_a, z_b⟩ := all_z
  try clear all_z
  have hB1 : Below w.heap.size w w1 := by (repeat (first | (with_reducible exact Below.refl _ _) | (with_reducible assumption) | (with_reducible exact Hid.out (by with_reducible assumption)) | (with_reducible refine Below.alloc ?_ ?_ _) | (with_reducible refine Below.setCell ?_ ?_ _) | (with_reducible refine below_drewN ?_ _) | (with_reducible refine Below.drew ?_) | (with_reducible refine below_via (by with_reducible assumption) ?_ ?_) | (first | (with_reducible assumption) | omega | (simp only [World.size_alloc, World.size_setCell, World.size_drew, World.heap_drewN] <;> omega) | (simp <;> omega))))
  go_wp2_with fail
  refine (G1.out _).mono ?_
  rintro e v1 ⟨rfl, hv1⟩
  have hz_v1 := hv1.size
  try simp only [World.size_alloc, World.size_setCell] at hz_v1
  have all_c : v1.cell? ⟨w.heap.size, 0, none⟩ = some (.int .i64 aseg) ∧ v1.cell? ⟨w.heap.size, 1, none⟩ = some (.slice awa alw awc) ∧ v1.cell? ⟨w.heap.size, 2, none⟩ = some (.slice aka alk akc) ∧ v1.cell? ⟨w.heap.size, 3, none⟩ = some (.slice ava alv avc) ∧ v1.cell? ⟨w.heap.size, 4, none⟩ = some (.slice aca alc acc) ∧ v1.cell? ⟨w.heap.size, 5, none⟩ = some (.int .u64 alaid) ∧ v1.cell? ⟨w.heap.size + 1, 0, none⟩ = some (.int .i64 bseg) ∧ v1.cell? ⟨w.heap.size + 1, 1, none⟩ = some (.slice bwa blw bwc) ∧ v1.cell? ⟨w.heap.size + 1, 2, none⟩ = some (.slice bka blk bkc) ∧ v1.cell? ⟨w.heap.size + 1, 3, none⟩ = some (.slice bva blv bvc) ∧ v1.cell? ⟨w.heap.size + 1, 4, none⟩ = some (.slice bca blc bcc) ∧ v1.cell? ⟨w.heap.size + 1, 5, none⟩ = some (.int .u64 blaid) := by refine ⟨?_, ?_, ?_, ?_, ?_, ?_, ?_, ?_, ?_, ?_, ?_, ?_⟩ <;> (refine (hv1.cell ?_).trans ?_ <;> first | (first | (with_reducible assumption) | omega | (simp only [World.size_alloc, World.size_setCell, World.size_drew, World.heap_drewN] <;> omega) | (simp <;> omega)) | (first | (with_reducible assumption) | ((try simp (disch := first | omega | (simp only [World.size_alloc, World.size_setCell, World.size_drew, World.heap_drewN] <;> omega) | fail) only [World.cell?_alloc_past, World.cell?_alloc_at, World.frozen?_alloc_past, World.frozen?_alloc_at, World.frozen?_setCell, World.cell?_drew, World.frozen?_drew]) <;> first | (with_reducible assumption) | rfl)))
  have all_z : w.heap.size < v1.heap.size ∧ w.heap.size + 1 < v1.heap.size := by refine ⟨?_, ?_⟩ <;> (omega)
  clear c_a0 c_a1 c_a2 c_a3 c_a4 c_a5 c_b0 c_b1 c_b2 c_b3 c_b4 c_b5 z_a z_b
  obtain ⟨c_a0, c_a1, c_a2, c_a3, c_a4, c_a5, c_b0, c_b1, c_b2, c_b3, c_b4, c_b5⟩ := all_c
  try clear all_c
  obtain ⟨z_a, z_b⟩ := all_z
  try clear all_z
  have hV1 : Below w.heap.size w v1 := by (repeat (first | (with_reducible exact Below.refl _ _) | (with_reducible assumption) | (with_reducible exact Hid.out (by with_reducible assumption)) | (with_reducible refine Below.alloc ?_ ?_ _) | (with_reducible refine Below.setCell ?_ ?_ _) | (with_reducible refine below_drewN ?_ _) | (with_reducible refine Below.drew ?_) | (with_reducible refine below_via (by with_reducible assumption) ?_ ?_) | (first | (with_reducible assumption) | omega | (simp only [World.size_alloc, World.size_setCell, World.size_drew, World.heap_drewN] <;> omega) | (simp <;> omega))))
  go_wp2_with fail
  refine (G2.out _).mono ?_
  rintro e v2 ⟨rfl, hv2⟩
  have hz_v2 := hv2.size
  try simp only [World.size_alloc, World.size_setCell] at hz_v2
  have hV2 : Below w.heap.size w v2 := by (repeat (first | (with_reducible exact Below.refl _ _) | (with_reducible assumption) | (with_reducible exact Hid.out (by with_reducible assumption)) | (with_reducible refine Below.alloc ?_ ?_ _) | (with_reducible refine Below.setCell ?_ ?_ _) | (with_reducible refine below_drewN ?_ _) | (with_reducible refine Below.drew ?_) | (with_reducible refine below_via (by with_reducible assumption) ?_ ?_) | (first | (with_reducible assumption) | omega | (simp only [World.size_alloc, World.size_setCell, World.size_drew, World.heap_drewN] <;> omega) | (simp <;> omega))))
  go_wp2
  go_ret
  exact ⟨rfl, hV2⟩

theorem MA_noe (aseg : Int) (awa aka ava aca : Option Addr) (awc akc avc acc alw alk alv alc : Nat) (alaid : Int) (bseg : Int) (bwa bka bva bca : Option Addr) (bwc bkc bvc bcc blw blk blv blc : Nat) (blaid : Int) (lf rt : Int) (w : World) (Lc Ld F T e f g : Int) (cm cc' dm dc : List Int) (he : e ≠ 0) (G1 : Hid (∀ W, Calls Try.prog 10 #[.agg #[.int .i64 aseg, .slice awa alw awc, .slice aka alk akc, .slice ava alv avc, .slice aca alc acc, .int .u64 alaid], .int .i64 600] W (AnsB W (.bool false)))) (G2 : Hid (∀ W, Calls Try.prog 10 #[.agg #[.int .i64 bseg, .slice bwa blw bwc, .slice bka blk bkc, .slice bva blv bvc, .slice bca blc bcc, .int .u64 blaid], .int .i64 600] W (AnsB W (.bool false))))
    (BA : Hid (∀ W, Below w.heap.size w W → Calls Try.prog 23 #[.agg #[.int .i64 aseg, .slice awa alw awc, .slice aka alk akc, .slice ava alv avc, .slice aca alc acc, .int .u64 alaid]] W (FreshIx2 W Lc cm cc' (.int .i64 e))))
    (BB : Hid (∀ W, Below w.heap.size w W → Calls Try.prog 23 #[.agg #[.int .i64 bseg, .slice bwa blw bwc, .slice bka blk bkc, .slice bva blv bvc, .slice bca blc bcc, .int .u64 blaid]] W (FreshIx2 W Ld dm dc (.int .i64 f))))
    (TU : Hid (∀ W, Below w.heap.size w W → Calls Try.prog 13 #[.agg #[.int .i64 aseg, .slice awa alw awc, .slice aka alk akc, .slice ava alv avc, .slice aca alc acc, .int .u64 alaid], .agg #[.int .i64 bseg, .slice bwa blw bwc, .slice bka blk bkc, .slice bva blv bvc, .slice bca blc bcc, .int .u64 blaid]] W (AnsB W (.tuple #[.int .i64 F, .int .i64 T, .int .i64 g])))) :
    Calls Try.prog 5 #[.agg #[.int .i64 aseg, .slice awa alw awc, .slice aka alk akc, .slice ava alv avc, .slice aca alc acc, .int .u64 alaid], .agg #[.int .i64 bseg, .slice bwa blw bwc, .slice bka blk bkc, .slice bva blv bvc, .slice bca blc bcc, .int .u64 blaid], .int .u8 lf, .int .u8 rt] w (AnsB w (.bool true)) := by
  have AL := Lib.hid alive20_ok
  have g1 : (e != 0) = true := by simpa using he
  clear he
  go_enter Try.func5, Try.ntmps5
  go_wp2_with fail
  refine (AL.out _).mono ?_
  rintro e w1 ⟨rfl, hb1⟩
  have hz_w1 := hb1.size
  try simp only [World.size_alloc, World.size_setCell] at hz_w1
  have all_c : w1.cell? ⟨w.heap.size, 0, none⟩ = some (.int .i64 aseg) ∧ w1.cell? ⟨w.heap.size, 1, none⟩ = some (.slice awa alw awc) ∧ w1.cell? ⟨w.heap.size, 2, none⟩ = some (.slice aka alk akc) ∧ w1.cell? ⟨w.heap.size, 3, none⟩ = some (.slice ava alv avc) ∧ w1.cell? ⟨w.heap.size, 4, none⟩ = some (.slice aca alc acc) ∧ w1.cell? ⟨w.heap.size, 5, none⟩ = some (.int .u64 alaid) ∧ w1.cell? ⟨w.heap.size + 1, 0, none⟩ = some (.int .i64 bseg) ∧ w1.cell? ⟨w.heap.size + 1, 1, none⟩ = some (.slice bwa blw bwc) ∧ w1.cell? ⟨w.heap.size + 1, 2, none⟩ = some (.slice bka blk bkc) ∧ w1.cell? ⟨w.heap.size + 1, 3, none⟩ = some (.slice bva blv bvc) ∧ w1.cell? ⟨w.heap.size + 1, 4, none⟩ = some (.slice bca blc bcc) ∧ w1.cell? ⟨w.heap.size + 1, 5, none⟩ = some (.int .u64 blaid) := by refine ⟨?_, ?_, ?_, ?_, ?_, ?_, ?_, ?_, ?_, ?_, ?_, ?_⟩ <;> (refine (hb1.cell ?_).trans ?_ <;> first | (first | (with_reducible assumption) | omega | (simp only [World.size_alloc, World.size_setCell, World.size_drew, World.heap_drewN] <;> omega) | (simp <;> omega)) | (first | (with_reducible assumption) | ((try simp (disch := first | omega | (simp only [World.size_alloc, World.size_setCell, World.size_drew, World.heap_drewN] <;> omega) | fail) only [World.cell?_alloc_past, World.cell?_alloc_at, World.frozen?_alloc_past, World.frozen?_alloc_at, World.frozen?_setCell, World.cell?_drew, World.frozen?_drew]) <;> first | (with_reducible assumption) | rfl)))
  have all_z : w.heap.size < w1.heap.size ∧ w.heap.size + 1 < w1.heap.size := by refine ⟨?_, ?_⟩ <;> (omega)
  obtain ⟨c_a0, c_a1, c_a2, c_a3, c_a4, c_a5, c_b0, c_b1, c_b2, c_b3, c_b4, c_b5⟩ := all_c
  try clear all_c
  obtain ⟨z_a, z_b⟩ := all_z
  try clear all_z
  have hB1 : Below w.heap.size w w1 := by (repeat (first | (with_reducible exact Below.refl _ _) | (with_reducible assumption) | (with_reducible exact Hid.out (by with_reducible assumption)) | (with_reducible refine Below.alloc ?_ ?_ _) | (with_reducible refine Below.setCell ?_ ?_ _) | (with_reducible refine below_drewN ?_ _) | (with_reducible refine Below.drew ?_) | (with_reducible refine below_via (by with_reducible assumption) ?_ ?_) | (first | (with_reducible assumption) | omega | (simp only [World.size_alloc, World.size_setCell, World.size_drew, World.heap_drewN] <;> omega) | (simp <;> omega))))
  go_wp2_with fail
  refine (G1.out _).mono ?_
  rintro e v1 ⟨rfl, hv1⟩
  have hz_v1 := hv1.size
  try simp only [World.size_alloc, World.size_setCell] at hz_v1
  have all_c : v1.cell? ⟨w.heap.size, 0, none⟩ = some (.int .i64 aseg) ∧ v1.cell? ⟨w.heap.size, 1, none⟩ = some (.slice awa alw awc) ∧ v1.cell? ⟨w.heap.size, 2, none⟩ = some (.slice aka alk akc) ∧ v1.cell? ⟨w.heap.size, 3, none⟩ = some (.slice ava alv avc) ∧ v1.cell? ⟨w.heap.size, 4, none⟩ = some (.slice aca alc acc) ∧ v1.cell? ⟨w.heap.size, 5, none⟩ = some (.int .u64 alaid) ∧ v1.cell? ⟨w.heap.size + 1, 0, none⟩ = some (.int .i64 bseg) ∧ v1.cell? ⟨w.heap.size + 1, 1, none⟩ = some (.slice bwa blw bwc) ∧ v1.cell? ⟨w.heap.size + 1, 2, none⟩ = some (.slice bka blk bkc) ∧ v1.cell? ⟨w.heap.size + 1, 3, none⟩ = some (.slice bva blv bvc) ∧ v1.cell? ⟨w.heap.size + 1, 4, none⟩ = some (.slice bca blc bcc) ∧ v1.cell? ⟨w.heap.size + 1, 5, none⟩ = some (.int .u64 blaid) := by refine ⟨?_, ?_, ?_, ?_, ?_, ?_, ?_, ?_, ?_, ?_, ?_, ?_⟩ <;> (refine (hv1.cell ?_).trans ?_ <;> first | (first | (with_reducible assumption) | omega | (simp only [World.size_alloc, World.size_setCell, World.size_drew, World.heap_drewN] <;> omega) | (simp <;> omega)) | (first | (with_reducible assumption) | ((try simp (disch := first | omega | (simp only [World.size_alloc, World.size_setCell, World.size_drew, World.heap_drewN] <;> omega) | fail) only [World.cell?_alloc_past, World.cell?_alloc_at, World.frozen?_alloc_past, World.frozen?_alloc_at, World.frozen?_setCell, World.cell?_drew, World.frozen?_drew]) <;> first | (with_reducible assumption) | rfl)))
  have all_z : w.heap.size < v1.heap.size ∧ w.heap.size + 1 < v1.heap.size := by refine ⟨?_, ?_⟩ <;> (omega)
  clear c_a0 c_a1 c_a2 c_a3 c_a4 c_a5 c_b0 c_b1 c_b2 c_b3 c_b4 c_b5 z_a z_b
  obtain ⟨c_a0, c_a1, c_a2, c_a3, c_a4, c_a5, c_b0, c_b1, c_b2, c_b3, c_b4, c_b5⟩ := all_c
  try clear all_c
  obtain ⟨z_a, z_b⟩ := all_z
  try clear all_z
  have hV1 : Below w.heap.size w v1 := by (repeat (first | (with_reducible exact Below.refl _ _) | (with_reducible assumption) | (with_reducible exact Hid.out (by with_reducible assumption)) | (with_reducible refine Below.alloc ?_ ?_ _) | (with_reducible refine Below.setCell ?_ ?_ _) | (with_reducible refine below_drewN ?_ _) | (with_reducible refine Below.drew ?_) | (with_reducible refine below_via (by with_reducible assumption) ?_ ?_) | (first | (with_reducible assumption) | omega | (simp only [World.size_alloc, World.size_setCell, World.size_drew, World.heap_drewN] <;> omega) | (simp <;> omega))))
  go_wp2_with fail
  refine (G2.out _).mono ?_
  rintro e v2 ⟨rfl, hv2⟩
  have hz_v2 := hv2.size
  try simp only [World.size_alloc, World.size_setCell] at hz_v2
  have all_c : v2.cell? ⟨w.heap.size, 0, none⟩ = some (.int .i64 aseg) ∧ v2.cell? ⟨w.heap.size, 1, none⟩ = some (.slice awa alw awc) ∧ v2.cell? ⟨w.heap.size, 2, none⟩ = some (.slice aka alk akc) ∧ v2.cell? ⟨w.heap.size, 3, none⟩ = some (.slice ava alv avc) ∧ v2.cell? ⟨w.heap.size, 4, none⟩ = some (.slice aca alc acc) ∧ v2.cell? ⟨w.heap.size, 5, none⟩ = some (.int .u64 alaid) ∧ v2.cell? ⟨w.heap.size + 1, 0, none⟩ = some (.int .i64 bseg) ∧ v2.cell? ⟨w.heap.size + 1, 1, none⟩ = some (.slice bwa blw bwc) ∧ v2.cell? ⟨w.heap.size + 1, 2, none⟩ = some (.slice bka blk bkc) ∧ v2.cell? ⟨w.heap.size + 1, 3, none⟩ = some (.slice bva blv bvc) ∧ v2.cell? ⟨w.heap.size + 1, 4, none⟩ = some (.slice bca blc bcc) ∧ v2.cell? ⟨w.heap.size + 1, 5, none⟩ = some (.int .u64 blaid) := by refine ⟨?_, ?_, ?_, ?_, ?_, ?_, ?_, ?_, ?_, ?_, ?_, ?_⟩ <;> (refine (hv2.cell ?_).trans ?_ <;> first | (first | (with_reducible assumption) | omega | (simp only [World.size_alloc, World.size_setCell, World.size_drew, World.heap_drewN] <;> omega) | (simp <;> omega)) | (first | (with_reducible assumption) | ((try simp (disch := first | omega | (simp only [World.size_alloc, World.size_setCell, World.size_drew, World.heap_drewN] <;> omega) | fail) only [World.cell?_alloc_past, World.cell?_alloc_at, World.frozen?_alloc_past, World.frozen?_alloc_at, World.frozen?_setCell, World.cell?_drew, World.frozen?_drew]) <;> first | (with_reducible assumption) | rfl)))
  have all_z : w.heap.size < v2.heap.size ∧ w.heap.size + 1 < v2.heap.size := by refine ⟨?_, ?_⟩ <;> (omega)
  clear c_a0 c_a1 c_a2 c_a3 c_a4 c_a5 c_b0 c_b1 c_b2 c_b3 c_b4 c_b5 z_a z_b
  obtain ⟨c_a0, c_a1, c_a2, c_a3, c_a4, c_a5, c_b0, c_b1, c_b2, c_b3, c_b4, c_b5⟩ := all_c
  try clear all_c
  obtain ⟨z_a, z_b⟩ := all_z
  try clear all_z
  have hV2 : Below w.heap.size w v2 := by (repeat (first | (with_reducible exact Below.refl _ _) | (with_reducible assumption) | (with_reducible exact Hid.out (by with_reducible assumption)) | (with_reducible refine Below.alloc ?_ ?_ _) | (with_reducible refine Below.setCell ?_ ?_ _) | (with_reducible refine below_drewN ?_ _) | (with_reducible refine Below.drew ?_) | (with_reducible refine below_via (by with_reducible assumption) ?_ ?_) | (first | (with_reducible assumption) | omega | (simp only [World.size_alloc, World.size_setCell, World.size_drew, World.heap_drewN] <;> omega) | (simp <;> omega))))
  go_wp2_with fail
  refine (BA.out _ hV2).mono ?_
  rintro e w3 ⟨v, u, rfl, o1, o2, hb3⟩
  have hz_w3 := hb3.size
  try simp only [World.size_alloc, World.size_setCell] at hz_w3
  have all_c : w3.cell? ⟨w.heap.size, 0, none⟩ = some (.int .i64 aseg) ∧ w3.cell? ⟨w.heap.size, 1, none⟩ = some (.slice awa alw awc) ∧ w3.cell? ⟨w.heap.size, 2, none⟩ = some (.slice aka alk akc) ∧ w3.cell? ⟨w.heap.size, 3, none⟩ = some (.slice ava alv avc) ∧ w3.cell? ⟨w.heap.size, 4, none⟩ = some (.slice aca alc acc) ∧ w3.cell? ⟨w.heap.size, 5, none⟩ = some (.int .u64 alaid) ∧ w3.cell? ⟨w.heap.size + 1, 0, none⟩ = some (.int .i64 bseg) ∧ w3.cell? ⟨w.heap.size + 1, 1, none⟩ = some (.slice bwa blw bwc) ∧ w3.cell? ⟨w.heap.size + 1, 2, none⟩ = some (.slice bka blk bkc) ∧ w3.cell? ⟨w.heap.size + 1, 3, none⟩ = some (.slice bva blv bvc) ∧ w3.cell? ⟨w.heap.size + 1, 4, none⟩ = some (.slice bca blc bcc) ∧ w3.cell? ⟨w.heap.size + 1, 5, none⟩ = some (.int .u64 blaid) := by refine ⟨?_, ?_, ?_, ?_, ?_, ?_, ?_, ?_, ?_, ?_, ?_, ?_⟩ <;> (refine (hb3.cell ?_).trans ?_ <;> first | (first | (with_reducible assumption) | omega | (simp only [World.size_alloc, World.size_setCell, World.size_drew, World.heap_drewN] <;> omega) | (simp <;> omega)) | (first | (with_reducible assumption) | ((try simp (disch := first | omega | (simp only [World.size_alloc, World.size_setCell, World.size_drew, World.heap_drewN] <;> omega) | fail) only [World.cell?_alloc_past, World.cell?_alloc_at, World.frozen?_alloc_past, World.frozen?_alloc_at, World.frozen?_setCell, World.cell?_drew, World.frozen?_drew]) <;> first | (with_reducible assumption) | rfl)))
  have all_z : w.heap.size < w3.heap.size ∧ w.heap.size + 1 < w3.heap.size := by refine ⟨?_, ?_⟩ <;> (omega)
  clear c_a0 c_a1 c_a2 c_a3 c_a4 c_a5 c_b0 c_b1 c_b2 c_b3 c_b4 c_b5 z_a z_b
  obtain ⟨c_a0, c_a1, c_a2, c_a3, c_a4, c_a5, c_b0, c_b1, c_b2, c_b3, c_b4, c_b5⟩ := all_c
  try clear all_c
  obtain ⟨z_a, z_b⟩ := all_z
  try clear all_z
  have hB3 : Below w.heap.size w w3 := by (repeat (first | (with_reducible exact Below.refl _ _) | (with_reducible assumption) | (with_reducible exact Hid.out (by with_reducible assumption)) | (with_reducible refine Below.alloc ?_ ?_ _) | (with_reducible refine Below.setCell ?_ ?_ _) | (with_reducible refine below_drewN ?_ _) | (with_reducible refine Below.drew ?_) | (with_reducible refine below_via (by with_reducible assumption) ?_ ?_) | (first | (with_reducible assumption) | omega | (simp only [World.size_alloc, World.size_setCell, World.size_drew, World.heap_drewN] <;> omega) | (simp <;> omega))))
  obtain ⟨ma', mc', rfl, -⟩ := owns_news o1
  obtain ⟨ca', ck', rfl, -⟩ := owns_news o2
  clear o1 o2
  go_wp2_with fail
  refine (BB.out _ (by (repeat (first | (with_reducible exact Below.refl _ _) | (with_reducible assumption) | (with_reducible exact Hid.out (by with_reducible assumption)) | (with_reducible refine Below.alloc ?_ ?_ _) | (with_reducible refine Below.setCell ?_ ?_ _) | (with_reducible refine below_drewN ?_ _) | (with_reducible refine Below.drew ?_) | (with_reducible refine below_via (by with_reducible assumption) ?_ ?_) | (first | (with_reducible assumption) | omega | (simp only [World.size_alloc, World.size_setCell, World.size_drew, World.heap_drewN] <;> omega) | (simp <;> omega)))))).mono ?_
  rintro e w4 ⟨v, u, rfl, o1, o2, hb4⟩
  have hz_w4 := hb4.size
  try simp only [World.size_alloc, World.size_setCell] at hz_w4
  have all_c : w4.cell? ⟨w.heap.size, 0, none⟩ = some (.int .i64 aseg) ∧ w4.cell? ⟨w.heap.size, 1, none⟩ = some (.slice awa alw awc) ∧ w4.cell? ⟨w.heap.size, 2, none⟩ = some (.slice aka alk akc) ∧ w4.cell? ⟨w.heap.size, 3, none⟩ = some (.slice ava alv avc) ∧ w4.cell? ⟨w.heap.size, 4, none⟩ = some (.slice aca alc acc) ∧ w4.cell? ⟨w.heap.size, 5, none⟩ = some (.int .u64 alaid) ∧ w4.cell? ⟨w.heap.size + 1, 0, none⟩ = some (.int .i64 bseg) ∧ w4.cell? ⟨w.heap.size + 1, 1, none⟩ = some (.slice bwa blw bwc) ∧ w4.cell? ⟨w.heap.size + 1, 2, none⟩ = some (.slice bka blk bkc) ∧ w4.cell? ⟨w.heap.size + 1, 3, none⟩ = some (.slice bva blv bvc) ∧ w4.cell? ⟨w.heap.size + 1, 4, none⟩ = some (.slice bca blc bcc) ∧ w4.cell? ⟨w.heap.size + 1, 5, none⟩ = some (.int .u64 blaid) := by refine ⟨?_, ?_, ?_, ?_, ?_, ?_, ?_, ?_, ?_, ?_, ?_, ?_⟩ <;> (refine (hb4.cell ?_).trans ?_ <;> first | (first | (with_reducible assumption) | omega | (simp only [World.size_alloc, World.size_setCell, World.size_drew, World.heap_drewN] <;> omega) | (simp <;> omega)) | (first | (with_reducible assumption) | ((try simp (disch := first | omega | (simp only [World.size_alloc, World.size_setCell, World.size_drew, World.heap_drewN] <;> omega) | fail) only [World.cell?_alloc_past, World.cell?_alloc_at, World.frozen?_alloc_past, World.frozen?_alloc_at, World.frozen?_setCell, World.cell?_drew, World.frozen?_drew]) <;> first | (with_reducible assumption) | rfl)))
  have all_z : w.heap.size < w4.heap.size ∧ w.heap.size + 1 < w4.heap.size := by refine ⟨?_, ?_⟩ <;> (omega)
  clear c_a0 c_a1 c_a2 c_a3 c_a4 c_a5 c_b0 c_b1 c_b2 c_b3 c_b4 c_b5 z_a z_b
  obtain ⟨c_a0, c_a1, c_a2, c_a3, c_a4, c_a5, c_b0, c_b1, c_b2, c_b3, c_b4, c_b5⟩ := all_c
  try clear all_c
  obtain ⟨z_a, z_b⟩ := all_z
  try clear all_z
  have hB4 : Below w.heap.size w w4 := by (repeat (first | (with_reducible exact Below.refl _ _) | (with_reducible assumption) | (with_reducible exact Hid.out (by with_reducible assumption)) | (with_reducible refine Below.alloc ?_ ?_ _) | (with_reducible refine Below.setCell ?_ ?_ _) | (with_reducible refine below_drewN ?_ _) | (with_reducible refine Below.drew ?_) | (with_reducible refine below_via (by with_reducible assumption) ?_ ?_) | (first | (with_reducible assumption) | omega | (simp only [World.size_alloc, World.size_setCell, World.size_drew, World.heap_drewN] <;> omega) | (simp <;> omega))))
  obtain ⟨ma4, mc4, rfl, -⟩ := owns_news o1
  obtain ⟨ca4, ck4, rfl, -⟩ := owns_news o2
  clear o1 o2
  go_wp2_with fail
  refine (TU.out _ (by (repeat (first | (with_reducible exact Below.refl _ _) | (with_reducible assumption) | (with_reducible exact Hid.out (by with_reducible assumption)) | (with_reducible refine Below.alloc ?_ ?_ _) | (with_reducible refine Below.setCell ?_ ?_ _) | (with_reducible refine below_drewN ?_ _) | (with_reducible refine Below.drew ?_) | (with_reducible refine below_via (by with_reducible assumption) ?_ ?_) | (first | (with_reducible assumption) | omega | (simp only [World.size_alloc, World.size_setCell, World.size_drew, World.heap_drewN] <;> omega) | (simp <;> omega)))))).mono ?_
  rintro e w5 ⟨rfl, hb5⟩
  have hz_w5 := hb5.size
  try simp only [World.size_alloc, World.size_setCell] at hz_w5
  have hB5 : Below w.heap.size w w5 := by (repeat (first | (with_reducible exact Below.refl _ _) | (with_reducible assumption) | (with_reducible exact Hid.out (by with_reducible assumption)) | (with_reducible refine Below.alloc ?_ ?_ _) | (with_reducible refine Below.setCell ?_ ?_ _) | (with_reducible refine below_drewN ?_ _) | (with_reducible refine Below.drew ?_) | (with_reducible refine below_via (by with_reducible assumption) ?_ ?_) | (first | (with_reducible assumption) | omega | (simp only [World.size_alloc, World.size_setCell, World.size_drew, World.heap_drewN] <;> omega) | (simp <;> omega))))
  go_wp2
  go_ret
  exact ⟨rfl, by (repeat (first | (with_reducible exact Below.refl _ _) | (with_reducible assumption) | (with_reducible exact Hid.out (by with_reducible assumption)) | (with_reducible refine Below.alloc ?_ ?_ _) | (with_reducible refine Below.setCell ?_ ?_ _) | (with_reducible refine below_drewN ?_ _) | (with_reducible refine Below.drew ?_) | (with_reducible refine below_via (by with_reducible assumption) ?_ ?_) | (first | (with_reducible assumption) | omega | (simp only [World.size_alloc, World.size_setCell, World.size_drew, World.heap_drewN] <;> omega) | (simp <;> omega))))⟩

theorem MA_nof (aseg : Int) (awa aka ava aca : Option Addr) (awc akc avc acc alw alk alv alc : Nat) (alaid : Int) (bseg : Int) (bwa bka bva bca : Option Addr) (bwc bkc bvc bcc blw blk blv blc : Nat) (blaid : Int) (lf rt : Int) (w : World) (Lc Ld F T f g : Int) (cm cc' dm dc : List Int) (he : f ≠ 0) (G1 : Hid (∀ W, Calls Try.prog 10 #[.agg #[.int .i64 aseg, .slice awa alw awc, .slice aka alk akc, .slice ava alv avc, .slice aca alc acc, .int .u64 alaid], .int .i64 600] W (AnsB W (.bool false)))) (G2 : Hid (∀ W, Calls Try.prog 10 #[.agg #[.int .i64 bseg, .slice bwa blw bwc, .slice bka blk bkc, .slice bva blv bvc, .slice bca blc bcc, .int .u64 blaid], .int .i64 600] W (AnsB W (.bool false))))
    (BA : Hid (∀ W, Below w.heap.size w W → Calls Try.prog 23 #[.agg #[.int .i64 aseg, .slice awa alw awc, .slice aka alk akc, .slice ava alv avc, .slice aca alc acc, .int .u64 alaid]] W (FreshIx2 W Lc cm cc' (.int .i64 0))))
    (BB : Hid (∀ W, Below w.heap.size w W → Calls Try.prog 23 #[.agg #[.int .i64 bseg, .slice bwa blw bwc, .slice bka blk bkc, .slice bva blv bvc, .slice bca blc bcc, .int .u64 blaid]] W (FreshIx2 W Ld dm dc (.int .i64 f))))
    (TU : Hid (∀ W, Below w.heap.size w W → Calls Try.prog 13 #[.agg #[.int .i64 aseg, .slice awa alw awc, .slice aka alk akc, .slice ava alv avc, .slice aca alc acc, .int .u64 alaid], .agg #[.int .i64 bseg, .slice bwa blw bwc, .slice bka blk bkc, .slice bva blv bvc, .slice bca blc bcc, .int .u64 blaid]] W (AnsB W (.tuple #[.int .i64 F, .int .i64 T, .int .i64 g])))) :
    Calls Try.prog 5 #[.agg #[.int .i64 aseg, .slice awa alw awc, .slice aka alk akc, .slice ava alv avc, .slice aca alc acc, .int .u64 alaid], .agg #[.int .i64 bseg, .slice bwa blw bwc, .slice bka blk bkc, .slice bva blv bvc, .slice bca blc bcc, .int .u64 blaid], .int .u8 lf, .int .u8 rt] w (AnsB w (.bool true)) := by
  have AL := Lib.hid alive20_ok
  have g1 : (f != 0) = true := by simpa using he
  clear he
  go_enter Try.func5, Try.ntmps5
  go_wp2_with fail
  refine (AL.out _).mono ?_
  rintro e w1 ⟨rfl, hb1⟩
  have hz_w1 := hb1.size
  try simp only [World.size_alloc, World.size_setCell] at hz_w1
  have all_c : w1.cell? ⟨w.heap.size, 0, none⟩ = some (.int .i64 aseg) ∧ w1.cell? ⟨w.heap.size, 1, none⟩ = some (.slice awa alw awc) ∧ w1.cell? ⟨w.heap.size, 2, none⟩ = some (.slice aka alk akc) ∧ w1.cell? ⟨w.heap.size, 3, none⟩ = some (.slice ava alv avc) ∧ w1.cell? ⟨w.heap.size, 4, none⟩ = some (.slice aca alc acc) ∧ w1.cell? ⟨w.heap.size, 5, none⟩ = some (.int .u64 alaid) ∧ w1.cell? ⟨w.heap.size + 1, 0, none⟩ = some (.int .i64 bseg) ∧ w1.cell? ⟨w.heap.size + 1, 1, none⟩ = some (.slice bwa blw bwc) ∧ w1.cell? ⟨w.heap.size + 1, 2, none⟩ = some (.slice bka blk bkc) ∧ w1.cell? ⟨w.heap.size + 1, 3, none⟩ = some (.slice bva blv bvc) ∧ w1.cell? ⟨w.heap.size + 1, 4, none⟩ = some (.slice bca blc bcc) ∧ w1.cell? ⟨w.heap.size + 1, 5, none⟩ = some (.int .u64 blaid) := by refine ⟨?_, ?_, ?_, ?_, ?_, ?_, ?_, ?_, ?_, ?_, ?_, ?_⟩ <;> (refine (hb1.cell ?_).trans ?_ <;> first | (first | (with_reducible assumption) | omega | (simp only [World.size_alloc, World.size_setCell, World.size_drew, World.heap_drewN] <;> omega) | (simp <;> omega)) | (first | (with_reducible assumption) | ((try simp (disch := first | omega | (simp only [World.size_alloc, World.size_setCell, World.size_drew, World.heap_drewN] <;> omega) | fail) only [World.cell?_alloc_past, World.cell?_alloc_at, World.frozen?_alloc_past, World.frozen?_alloc_at, World.frozen?_setCell, World.cell?_drew, World.frozen?_drew]) <;> first | (with_reducible assumption) | rfl)))
  have all_z : w.heap.size < w1.heap.size ∧ w.heap.size + 1 < w1.heap.size := by refine ⟨?_, ?_⟩ <;> (omega)
  obtain ⟨c_a0, c_a1, c_a2, c_a3, c_a4, c_a5, c_b0, c_b1, c_b2, c_b3, c_b4, c_b5⟩ := all_c
  try clear all_c
  obtain ⟨z_a, z_b⟩ := all_z
  try clear all_z
  have hB1 : Below w.heap.size w w1 := by (repeat (first | (with_reducible exact Below.refl _ _) | (with_reducible assumption) | (with_reducible exact Hid.out (by with_reducible assumption)) | (with_reducible refine Below.alloc ?_ ?_ _) | (with_reducible refine Below.setCell ?_ ?_ _) | (with_reducible refine below_drewN ?_ _) | (with_reducible refine Below.drew ?_) | (with_reducible refine below_via (by with_reducible assumption) ?_ ?_) | (first | (with_reducible assumption) | omega | (simp only [World.size_alloc, World.size_setCell, World.size_drew, World.heap_drewN] <;> omega) | (simp <;> omega))))
  go_wp2_with fail
  refine (G1.out _).mono ?_
  rintro e v1 ⟨rfl, hv1⟩
  have hz_v1 := hv1.size
  try simp only [World.size_alloc, World.size_setCell] at hz_v1
  have all_c : v1.cell? ⟨w.heap.size, 0, none⟩ = some (.int .i64 aseg) ∧ v1.cell? ⟨w.heap.size, 1, none⟩ = some (.slice awa alw awc) ∧ v1.cell? ⟨w.heap.size, 2, none⟩ = some (.slice aka alk akc) ∧ v1.cell? ⟨w.heap.size, 3, none⟩ = some (.slice ava alv avc) ∧ v1.cell? ⟨w.heap.size, 4, none⟩ = some (.slice aca alc acc) ∧ v1.cell? ⟨w.heap.size, 5, none⟩ = some (.int .u64 alaid) ∧ v1.cell? ⟨w.heap.size + 1, 0, none⟩ = some (.int .i64 bseg) ∧ v1.cell? ⟨w.heap.size + 1, 1, none⟩ = some (.slice bwa blw bwc) ∧ v1.cell? ⟨w.heap.size + 1, 2, none⟩ = some (.slice bka blk bkc) ∧ v1.cell? ⟨w.heap.size + 1, 3, none⟩ = some (.slice bva blv bvc) ∧ v1.cell? ⟨w.heap.size + 1, 4, none⟩ = some (.slice bca blc bcc) ∧ v1.cell? ⟨w.heap.size + 1, 5, none⟩ = some (.int .u64 blaid) := by refine ⟨?_, ?_, ?_, ?_, ?_, ?_, ?_, ?_, ?_, ?_, ?_, ?_⟩ <;> (refine (hv1.cell ?_).trans ?_ <;> first | (first | (with_reducible assumption) | omega | (simp only [World.size_alloc, World.size_setCell, World.size_drew, World.heap_drewN] <;> omega) | (simp <;> omega)) | (first | (with_reducible assumption) | ((try simp (disch := first | omega | (simp only [World.size_alloc, World.size_setCell, World.size_drew, World.heap_drewN] <;> omega) | fail) only [World.cell?_alloc_past, World.cell?_alloc_at, World.frozen?_alloc_past, World.frozen?_alloc_at, World.frozen?_setCell, World.cell?_drew, World.frozen?_drew]) <;> first | (with_reducible assumption) | rfl)))
  have all_z : w.heap.size < v1.heap.size ∧ w.heap.size + 1 < v1.heap.size := by refine ⟨?_, ?_⟩ <;> (omega)
  clear c_a0 c_a1 c_a2 c_a3 c_a4 c_a5 c_b0 c_b1 c_b2 c_b3 c_b4 c_b5 z_a z_b
  obtain ⟨c_a0, c_a1, c_a2, c_a3, c_a4, c_a5, c_b0, c_b1, c_b2, c_b3, c_b4, c_b5⟩ := all_c
  try clear all_c
  obtain ⟨z_a, z_b⟩ := all_z
  try clear all_z
  have hV1 : Below w.heap.size w v1 := by (repeat (first | (with_reducible exact Below.refl _ _) | (with_reducible assumption) | (with_reducible exact Hid.out (by with_reducible assumption)) | (with_reducible refine Below.alloc ?_ ?_ _) | (with_reducible refine Below.setCell ?_ ?_ _) | (with_reducible refine below_drewN ?_ _) | (with_reducible refine Below.drew ?_) | (with_reducible refine below_via (by with_reducible assumption) ?_ ?_) | (first | (with_reducible assumption) | omega | (simp only [World.size_alloc, World.size_setCell, World.size_drew, World.heap_drewN] <;> omega) | (simp <;> omega))))
  go_wp2_with fail
  refine (G2.out _).mono ?_
  rintro e v2 ⟨rfl, hv2⟩
  have hz_v2 := hv2.size
  try simp only [World.size_alloc, World.size_setCell] at hz_v2
  have all_c : v2.cell? ⟨w.heap.size, 0, none⟩ = some (.int .i64 aseg) ∧ v2.cell? ⟨w.heap.size, 1, none⟩ = some (.slice awa alw awc) ∧ v2.cell? ⟨w.heap.size, 2, none⟩ = some (.slice aka alk akc) ∧ v2.cell? ⟨w.heap.size, 3, none⟩ = some (.slice ava alv avc) ∧ v2.cell? ⟨w.heap.size, 4, none⟩ = some (.slice aca alc acc) ∧ v2.cell? ⟨w.heap.size, 5, none⟩ = some (.int .u64 alaid) ∧ v2.cell? ⟨w.heap.size + 1, 0, none⟩ = some (.int .i64 bseg) ∧ v2.cell? ⟨w.heap.size + 1, 1, none⟩ = some (.slice bwa blw bwc) ∧ v2.cell? ⟨w.heap.size + 1, 2, none⟩ = some (.slice bka blk bkc) ∧ v2.cell? ⟨w.heap.size + 1, 3, none⟩ = some (.slice bva blv bvc) ∧ v2.cell? ⟨w.heap.size + 1, 4, none⟩ = some (.slice bca blc bcc) ∧ v2.cell? ⟨w.heap.size + 1, 5, none⟩ = some (.int .u64 blaid) := by refine ⟨?_, ?_, ?_, ?_, ?_, ?_, ?_, ?_, ?_, ?_, ?_, ?_⟩ <;> (refine (hv2.cell ?_).trans ?_ <;> first | (first | (with_reducible assumption) | omega | (simp only [World.size_alloc, World.size_setCell, World.size_drew, World.heap_drewN] <;> omega) | (simp <;> omega)) | (first | (with_reducible assumption) | ((try simp (disch := first | omega | (simp only [World.size_alloc, World.size_setCell, World.size_drew, World.heap_drewN] <;> omega) | fail) only [World.cell?_alloc_past, World.cell?_alloc_at, World.frozen?_alloc_past, World.frozen?_alloc_at, World.frozen?_setCell, World.cell?_drew, World.frozen?_drew]) <;> first | (with_reducible assumption) | rfl)))
  have all_z : w.heap.size < v2.heap.size ∧ w.heap.size + 1 < v2.heap.size := by refine ⟨?_, ?_⟩ <;> (omega)
  clear c_a0 c_a1 c_a2 c_a3 c_a4 c_a5 c_b0 c_b1 c_b2 c_b3 c_b4 c_b5 z_a z_b
  obtain ⟨c_a0, c_a1, c_a2, c_a3, c_a4, c_a5, c_b0, c_b1, c_b2, c_b3, c_b4, c_b5⟩ := all_c
  try clear all_c
  obtain ⟨z_a, z_b⟩ := all_z
  try clear all_z
  have hV2 : Below w.heap.size w v2 := by (repeat (first | (with_reducible exact Below.refl _ _) | (with_reducible assumption) | (with_reducible exact Hid.out (by with_reducible assumption)) | (with_reducible refine Below.alloc ?_ ?_ _) | (with_reducible refine Below.setCell ?_ ?_ _) | (with_reducible refine below_drewN ?_ _) | (with_reducible refine Below.drew ?_) | (with_reducible refine below_via (by with_reducible assumption) ?_ ?_) | (first | (with_reducible assumption) | omega | (simp only [World.size_alloc, World.size_setCell, World.size_drew, World.heap_drewN] <;> omega) | (simp <;> omega))))
  go_wp2_with fail
  refine (BA.out _ hV2).mono ?_
  rintro e w3 ⟨v, u, rfl, o1, o2, hb3⟩
  have hz_w3 := hb3.size
  try simp only [World.size_alloc, World.size_setCell] at hz_w3
  have all_c : w3.cell? ⟨w.heap.size, 0, none⟩ = some (.int .i64 aseg) ∧ w3.cell? ⟨w.heap.size, 1, none⟩ = some (.slice awa alw awc) ∧ w3.cell? ⟨w.heap.size, 2, none⟩ = some (.slice aka alk akc) ∧ w3.cell? ⟨w.heap.size, 3, none⟩ = some (.slice ava alv avc) ∧ w3.cell? ⟨w.heap.size, 4, none⟩ = some (.slice aca alc acc) ∧ w3.cell? ⟨w.heap.size, 5, none⟩ = some (.int .u64 alaid) ∧ w3.cell? ⟨w.heap.size + 1, 0, none⟩ = some (.int .i64 bseg) ∧ w3.cell? ⟨w.heap.size + 1, 1, none⟩ = some (.slice bwa blw bwc) ∧ w3.cell? ⟨w.heap.size + 1, 2, none⟩ = some (.slice bka blk bkc) ∧ w3.cell? ⟨w.heap.size + 1, 3, none⟩ = some (.slice bva blv bvc) ∧ w3.cell? ⟨w.heap.size + 1, 4, none⟩ = some (.slice bca blc bcc) ∧ w3.cell? ⟨w.heap.size + 1, 5, none⟩ = some (.int .u64 blaid) := by refine ⟨?_, ?_, ?_, ?_, ?_, ?_, ?_, ?_, ?_, ?_, ?_, ?_⟩ <;> (refine (hb3.cell ?_).trans ?_ <;> first | (first | (with_reducible assumption) | omega | (simp only [World.size_alloc, World.size_setCell, World.size_drew, World.heap_drewN] <;> omega) | (simp <;> omega)) | (first | (with_reducible assumption) | ((try simp (disch := first | omega | (simp only [World.size_alloc, World.size_setCell, World.size_drew, World.heap_drewN] <;> omega) | fail) only [World.cell?_alloc_past, World.cell?_alloc_at, World.frozen?_alloc_past, World.frozen?_alloc_at, World.frozen?_setCell, World.cell?_drew, World.frozen?_drew]) <;> first | (with_reducible assumption) | rfl)))
  have all_z : w.heap.size < w3.heap.size ∧ w.heap.size + 1 < w3.heap.size := by refine ⟨?_, ?_⟩ <;> (omega)
  clear c_a0 c_a1 c_a2 c_a3 c_a4 c_a5 c_b0 c_b1 c_b2 c_b3 c_b4 c_b5 z_a z_b
  obtain ⟨c_a0, c_a1, c_a2, c_a3, c_a4, c_a5, c_b0, c_b1, c_b2, c_b3, c_b4, c_b5⟩ := all_c
  try clear all_c
  obtain ⟨z_a, z_b⟩ := all_z
  try clear all_z
  have hB3 : Below w.heap.size w w3 := by (repeat (first | (with_reducible exact Below.refl _ _) | (with_reducible assumption) | (with_reducible exact Hid.out (by with_reducible assumption)) | (with_reducible refine Below.alloc ?_ ?_ _) | (with_reducible refine Below.setCell ?_ ?_ _) | (with_reducible refine below_drewN ?_ _) | (with_reducible refine Below.drew ?_) | (with_reducible refine below_via (by with_reducible assumption) ?_ ?_) | (first | (with_reducible assumption) | omega | (simp only [World.size_alloc, World.size_setCell, World.size_drew, World.heap_drewN] <;> omega) | (simp <;> omega))))
  obtain ⟨ma', mc', rfl, -⟩ := owns_news o1
  obtain ⟨ca', ck', rfl, -⟩ := owns_news o2
  clear o1 o2
  go_wp2_with fail
  refine (BB.out _ (by (repeat (first | (with_reducible exact Below.refl _ _) | (with_reducible assumption) | (with_reducible exact Hid.out (by with_reducible assumption)) | (with_reducible refine Below.alloc ?_ ?_ _) | (with_reducible refine Below.setCell ?_ ?_ _) | (with_reducible refine below_drewN ?_ _) | (with_reducible refine Below.drew ?_) | (with_reducible refine below_via (by with_reducible assumption) ?_ ?_) | (first | (with_reducible assumption) | omega | (simp only [World.size_alloc, World.size_setCell, World.size_drew, World.heap_drewN] <;> omega) | (simp <;> omega)))))).mono ?_
  rintro e w4 ⟨v, u, rfl, o1, o2, hb4⟩
  have hz_w4 := hb4.size
  try simp only [World.size_alloc, World.size_setCell] at hz_w4
  have all_c : w4.cell? ⟨w.heap.size, 0, none⟩ = some (.int .i64 aseg) ∧ w4.cell? ⟨w.heap.size, 1, none⟩ = some (.slice awa alw awc) ∧ w4.cell? ⟨w.heap.size, 2, none⟩ = some (.slice aka alk akc) ∧ w4.cell? ⟨w.heap.size, 3, none⟩ = some (.slice ava alv avc) ∧ w4.cell? ⟨w.heap.size, 4, none⟩ = some (.slice aca alc acc) ∧ w4.cell? ⟨w.heap.size, 5, none⟩ = some (.int .u64 alaid) ∧ w4.cell? ⟨w.heap.size + 1, 0, none⟩ = some (.int .i64 bseg) ∧ w4.cell? ⟨w.heap.size + 1, 1, none⟩ = some (.slice bwa blw bwc) ∧ w4.cell? ⟨w.heap.size + 1, 2, none⟩ = some (.slice bka blk bkc) ∧ w4.cell? ⟨w.heap.size + 1, 3, none⟩ = some (.slice bva blv bvc) ∧ w4.cell? ⟨w.heap.size + 1, 4, none⟩ = some (.slice bca blc bcc) ∧ w4.cell? ⟨w.heap.size + 1, 5, none⟩ = some (.int .u64 blaid) := by refine ⟨?_, ?_, ?_, ?_, ?_, ?_, ?_, ?_, ?_, ?_, ?_, ?_⟩ <;> (refine (hb4.cell ?_).trans ?_ <;> first | (first | (with_reducible assumption) | omega | (simp only [World.size_alloc, World.size_setCell, World.size_drew, World.heap_drewN] <;> omega) | (simp <;> omega)) | (first | (with_reducible assumption) | ((try simp (disch := first | omega | (simp only [World.size_alloc, World.size_setCell, World.size_drew, World.heap_drewN] <;> omega) | fail) only [World.cell?_alloc_past, World.cell?_alloc_at, World.frozen?_alloc_past, World.frozen?_alloc_at, World.frozen?_setCell, World.cell?_drew, World.frozen?_drew]) <;> first | (with_reducible assumption) | rfl)))
  have all_z : w.heap.size < w4.heap.size ∧ w.heap.size + 1 < w4.heap.size := by refine ⟨?_, ?_⟩ <;> (omega)
  clear c_a0 c_a1 c_a2 c_a3 c_a4 c_a5 c_b0 c_b1 c_b2 c_b3 c_b4 c_b5 z_a z_b
  obtain ⟨c_a0, c_a1, c_a2, c_a3, c_a4, c_a5, c_b0, c_b1, c_b2, c_b3, c_b4, c_b5⟩ := all_c
  try clear all_c
  obtain ⟨z_a, z_b⟩ := all_z
  try clear all_z
  have hB4 : Below w.heap.size w w4 := by (repeat (first | (with_reducible exact Below.refl _ _) | (with_reducible assumption) | (with_reducible exact Hid.out (by with_reducible assumption)) | (with_reducible refine Below.alloc ?_ ?_ _) | (with_reducible refine Below.setCell ?_ ?_ _) | (with_reducible refine below_drewN ?_ _) | (with_reducible refine Below.drew ?_) | (with_reducible refine below_via (by with_reducible assumption) ?_ ?_) | (first | (with_reducible assumption) | omega | (simp only [World.size_alloc, World.size_setCell, World.size_drew, World.heap_drewN] <;> omega) | (simp <;> omega))))
  obtain ⟨ma4, mc4, rfl, -⟩ := owns_news o1
  obtain ⟨ca4, ck4, rfl, -⟩ := owns_news o2
  clear o1 o2
  go_wp2_with fail
  refine (TU.out _ (by (repeat (first | (with_reducible exact Below.refl _ _) | (with_reducible assumption) | (with_reducible exact Hid.out (by with_reducible assumption)) | (with_reducible refine Below.alloc ?_ ?_ _) | (with_reducible refine Below.setCell ?_ ?_ _) | (with_reducible refine below_drewN ?_ _) | (with_reducible refine Below.drew ?_) | (with_reducible refine below_via (by with_reducible assumption) ?_ ?_) | (first | (with_reducible assumption) | omega | (simp only [World.size_alloc, World.size_setCell, World.size_drew, World.heap_drewN] <;> omega) | (simp <;> omega)))))).mono ?_
  rintro e w5 ⟨rfl, hb5⟩
  have hz_w5 := hb5.size
  try simp only [World.size_alloc, World.size_setCell] at hz_w5
  have hB5 : Below w.heap.size w w5 := by (repeat (first | (with_reducible exact Below.refl _ _) | (with_reducible assumption) | (with_reducible exact Hid.out (by with_reducible assumption)) | (with_reducible refine Below.alloc ?_ ?_ _) | (with_reducible refine Below.setCell ?_ ?_ _) | (with_reducible refine below_drewN ?_ _) | (with_reducible refine Below.drew ?_) | (with_reducible refine below_via (by with_reducible assumption) ?_ ?_) | (first | (with_reducible assumption) | omega | (simp only [World.size_alloc, World.size_setCell, World.size_drew, World.heap_drewN] <;> omega) | (simp <;> omega))))
  go_wp2
  go_ret
  exact ⟨rfl, by (repeat (first | (with_reducible exact Below.refl _ _) | (with_reducible assumption) | (with_reducible exact Hid.out (by with_reducible assumption)) | (with_reducible refine Below.alloc ?_ ?_ _) | (with_reducible refine Below.setCell ?_ ?_ _) | (with_reducible refine below_drewN ?_ _) | (with_reducible refine Below.drew ?_) | (with_reducible refine below_via (by with_reducible assumption) ?_ ?_) | (first | (with_reducible assumption) | omega | (simp only [World.size_alloc, World.size_setCell, World.size_drew, World.heap_drewN] <;> omega) | (simp <;> omega))))⟩

theorem MA_nog (aseg : Int) (awa aka ava aca : Option Addr) (awc akc avc acc alw alk alv alc : Nat) (alaid : Int) (bseg : Int) (bwa bka bva bca : Option Addr) (bwc bkc bvc bcc blw blk blv blc : Nat) (blaid : Int) (lf rt : Int) (w : World) (Lc Ld F T g : Int) (cm cc' dm dc : List Int) (he : g ≠ 0) (G1 : Hid (∀ W, Calls Try.prog 10 #[.agg #[.int .i64 aseg, .slice awa alw awc, .slice aka alk akc, .slice ava alv avc, .slice aca alc acc, .int .u64 alaid], .int .i64 600] W (AnsB W (.bool false)))) (G2 : Hid (∀ W, Calls Try.prog 10 #[.agg #[.int .i64 bseg, .slice bwa blw bwc, .slice bka blk bkc, .slice bva blv bvc, .slice bca blc bcc, .int .u64 blaid], .int .i64 600] W (AnsB W (.bool false))))
    (BA : Hid (∀ W, Below w.heap.size w W → Calls Try.prog 23 #[.agg #[.int .i64 aseg, .slice awa alw awc, .slice aka alk akc, .slice ava alv avc, .slice aca alc acc, .int .u64 alaid]] W (FreshIx2 W Lc cm cc' (.int .i64 0))))
    (BB : Hid (∀ W, Below w.heap.size w W → Calls Try.prog 23 #[.agg #[.int .i64 bseg, .slice bwa blw bwc, .slice bka blk bkc, .slice bva blv bvc, .slice bca blc bcc, .int .u64 blaid]] W (FreshIx2 W Ld dm dc (.int .i64 0))))
    (TU : Hid (∀ W, Below w.heap.size w W → Calls Try.prog 13 #[.agg #[.int .i64 aseg, .slice awa alw awc, .slice aka alk akc, .slice ava alv avc, .slice aca alc acc, .int .u64 alaid], .agg #[.int .i64 bseg, .slice bwa blw bwc, .slice bka blk bkc, .slice bva blv bvc, .slice bca blc bcc, .int .u64 blaid]] W (AnsB W (.tuple #[.int .i64 F, .int .i64 T, .int .i64 g])))) :
    Calls Try.prog 5 #[.agg #[.int .i64 aseg, .slice awa alw awc, .slice aka alk akc, .slice ava alv avc, .slice aca alc acc, .int .u64 alaid], .agg #[.int .i64 bseg, .slice bwa blw bwc, .slice bka blk bkc, .slice bva blv bvc, .slice bca blc bcc, .int .u64 blaid], .int .u8 lf, .int .u8 rt] w (AnsB w (.bool true)) := by
  have AL := Lib.hid alive20_ok
  have g1 : (g != 0) = true := by simpa using he
  clear he
  go_enter Try.func5, Try.ntmps5
  go_wp2_with fail
  refine (AL.out _).mono ?_
  rintro e w1 ⟨rfl, hb1⟩
  have hz_w1 := hb1.size
  try simp only [World.size_alloc, World.size_setCell] at hz_w1
  have all_c : w1.cell? ⟨w.heap.size, 0, none⟩ = some (.int .i64 aseg) ∧ w1.cell? ⟨w.heap.size, 1, none⟩ = some (.slice awa alw awc) ∧ w1.cell? ⟨w.heap.size, 2, none⟩ = some (.slice aka alk akc) ∧ w1.cell? ⟨w.heap.size, 3, none⟩ = some (.slice ava alv avc) ∧ w1.cell? ⟨w.heap.size, 4, none⟩ = some (.slice aca alc acc) ∧ w1.cell? ⟨w.heap.size, 5, none⟩ = some (.int .u64 alaid) ∧ w1.cell? ⟨w.heap.size + 1, 0, none⟩ = some (.int .i64 bseg) ∧ w1.cell? ⟨w.heap.size + 1, 1, none⟩ = some (.slice bwa blw bwc) ∧ w1.cell? ⟨w.heap.size + 1, 2, none⟩ = some (.slice bka blk bkc) ∧ w1.cell? ⟨w.heap.size + 1, 3, none⟩ = some (.slice bva blv bvc) ∧ w1.cell? ⟨w.heap.size + 1, 4, none⟩ = some (.slice bca blc bcc) ∧ w1.cell? ⟨w.heap.size + 1, 5, none⟩ = some (.int .u64 blaid) := by refine ⟨?_, ?_, ?_, ?_, ?_, ?_, ?_, ?_, ?_, ?_, ?_, ?_⟩ <;> (refine (hb1.cell ?_).trans ?_ <;> first | (first | (with_reducible assumption) | omega | (simp only [World.size_alloc, World.size_setCell, World.size_drew, World.heap_drewN] <;> omega) | (simp <;> omega)) | (first | (with_reducible assumption) | ((try simp (disch := first | omega | (simp only [World.size_alloc, World.size_setCell, World.size_drew, World.heap_drewN] <;> omega) | fail) only [World.cell?_alloc_past, World.cell?_alloc_at, World.frozen?_alloc_past, World.frozen?_alloc_at, World.frozen?_setCell, World.cell?_drew, World.frozen?_drew]) <;> first | (with_reducible assumption) | rfl)))
  have all_z : w.heap.size < w1.heap.size ∧ w.heap.size + 1 < w1.heap.size := by refine ⟨?_, ?_⟩ <;> (omega)
  obtain ⟨c_a0, c_a1, c_a2, c_a3, c_a4, c_a5, c_b0, c_b1, c_b2, c_b3, c_b4, c_b5⟩ := all_c
  try clear all_c
  obtain ⟨z_a, z_b⟩ := all_z
  try clear all_z
  have hB1 : Below w.heap.size w w1 := by (repeat (first | (with_reducible exact Below.refl _ _) | (with_reducible assumption) | (with_reducible exact Hid.out (by with_reducible assumption)) | (with_reducible refine Below.alloc ?_ ?_ _) | (with_reducible refine Below.setCell ?_ ?_ _) | (with_reducible refine below_drewN ?_ _) | (with_reducible refine Below.drew ?_) | (with_reducible refine below_via (by with_reducible assumption) ?_ ?_) | (first | (with_reducible assumption) | omega | (simp only [World.size_alloc, World.size_setCell, World.size_drew, World.heap_drewN] <;> omega) | (simp <;> omega))))
  go_wp2_with fail
  refine (G1.out _).mono ?_
  rintro e v1 ⟨rfl, hv1⟩
  have hz_v1 := hv1.size
  try simp only [World.size_alloc, World.size_setCell] at hz_v1
  have all_c : v1.cell? ⟨w.heap.size, 0, none⟩ = some (.int .i64 aseg) ∧ v1.cell? ⟨w.heap.size, 1, none⟩ = some (.slice awa alw awc) ∧ v1.cell? ⟨w.heap.size, 2, none⟩ = some (.slice aka alk akc) ∧ v1.cell? ⟨w.heap.size, 3, none⟩ = some (.slice ava alv avc) ∧ v1.cell? ⟨w.heap.size, 4, none⟩ = some (.slice aca alc acc) ∧ v1.cell? ⟨w.heap.size, 5, none⟩ = some (.int .u64 alaid) ∧ v1.cell? ⟨w.heap.size + 1, 0, none⟩ = some (.int .i64 bseg) ∧ v1.cell? ⟨w.heap.size + 1, 1, none⟩ = some (.slice bwa blw bwc) ∧ v1.cell? ⟨w.heap.size + 1, 2, none⟩ = some (.slice bka blk bkc) ∧ v1.cell? ⟨w.heap.size + 1, 3, none⟩ = some (.slice bva blv bvc) ∧ v1.cell? ⟨w.heap.size + 1, 4, none⟩ = some (.slice bca blc bcc) ∧ v1.cell? ⟨w.heap.size + 1, 5, none⟩ = some (.int .u64 blaid) := by refine ⟨?_, ?_, ?_, ?_, ?_, ?_, ?_, ?_, ?_, ?_, ?_, ?_⟩ <;> (refine (hv1.cell ?_).trans ?_ <;> first | (first | (with_reducible assumption) | omega | (simp only [World.size_alloc, World.size_setCell, World.size_drew, World.heap_drewN] <;> omega) | (simp <;> omega)) | (first | (with_reducible assumption) | ((try simp (disch := first | omega | (simp only [World.size_alloc, World.size_setCell, World.size_drew, World.heap_drewN] <;> omega) | fail) only [World.cell?_alloc_past, World.cell?_alloc_at, World.frozen?_alloc_past, World.frozen?_alloc_at, World.frozen?_setCell, World.cell?_drew, World.frozen?_drew]) <;> first | (with_reducible assumption) | rfl)))
  have all_z : w.heap.size < v1.heap.size ∧ w.heap.size + 1 < v1.heap.size := by refine ⟨?_, ?_⟩ <;> (omega)
  clear c_a0 c_a1 c_a2 c_a3 c_a4 c_a5 c_b0 c_b1 c_b2 c_b3 c_b4 c_b5 z_a z_b
  obtain ⟨c_a0, c_a1, c_a2, c_a3, c_a4, c_a5, c_b0, c_b1, c_b2, c_b3, c_b4, c_b5⟩ := all_c
  try clear all_c
  obtain ⟨z_a, z_b⟩ := all_z
  try clear all_z
  have hV1 : Below w.heap.size w v1 := by (repeat (first | (with_reducible exact Below.refl _ _) | (with_reducible assumption) | (with_reducible exact Hid.out (by with_reducible assumption)) | (with_reducible refine Below.alloc ?_ ?_ _) | (with_reducible refine Below.setCell ?_ ?_ _) | (with_reducible refine below_drewN ?_ _) | (with_reducible refine Below.drew ?_) | (with_reducible refine below_via (by with_reducible assumption) ?_ ?_) | (first | (with_reducible assumption) | omega | (simp only [World.size_alloc, World.size_setCell, World.size_drew, World.heap_drewN] <;> omega) | (simp <;> omega))))
  go_wp2_with fail
  refine (G2.out _).mono ?_
  rintro e v2 ⟨rfl, hv2⟩
  have hz_v2 := hv2.size
  try simp only [World.size_alloc, World.size_setCell] at hz_v2
  have all_c : v2.cell? ⟨w.heap.size, 0, none⟩ = some (.int .i64 aseg) ∧ v2.cell? ⟨w.heap.size, 1, none⟩ = some (.slice awa alw awc) ∧ v2.cell? ⟨w.heap.size, 2, none⟩ = some (.slice aka alk akc) ∧ v2.cell? ⟨w.heap.size, 3, none⟩ = some (.slice ava alv avc) ∧ v2.cell? ⟨w.heap.size, 4, none⟩ = some (.slice aca alc acc) ∧ v2.cell? ⟨w.heap.size, 5, none⟩ = some (.int .u64 alaid) ∧ v2.cell? ⟨w.heap.size + 1, 0, none⟩ = some (.int .i64 bseg) ∧ v2.cell? ⟨w.heap.size + 1, 1, none⟩ = some (.slice bwa blw bwc) ∧ v2.cell? ⟨w.heap.size + 1, 2, none⟩ = some (.slice bka blk bkc) ∧ v2.cell? ⟨w.heap.size + 1, 3, none⟩ = some (.slice bva blv bvc) ∧ v2.cell? ⟨w.heap.size + 1, 4, none⟩ = some (.slice bca blc bcc) ∧ v2.cell? ⟨w.heap.size + 1, 5, none⟩ = some (.int .u64 blaid) := by refine ⟨?_, ?_, ?_, ?_, ?_, ?_, ?_, ?_, ?_, ?_, ?_, ?_⟩ <;> (refine (hv2.cell ?_).trans ?_ <;> first | (first | (with_reducible assumption) | omega | (simp only [World.size_alloc, World.size_setCell, World.size_drew, World.heap_drewN] <;> omega) | (simp <;> omega)) | (first | (with_reducible assumption) | ((try simp (disch := first | omega | (simp only [World.size_alloc, World.size_setCell, World.size_drew, World.heap_drewN] <;> omega) | fail) only [World.cell?_alloc_past, World.cell?_alloc_at, World.frozen?_alloc_past, World.frozen?_alloc_at, World.frozen?_setCell, World.cell?_drew, World.frozen?_drew]) <;> first | (with_reducible assumption) | rfl)))
  have all_z : w.heap.size < v2.heap.size ∧ w.heap.size + 1 < v2.heap.size := by refine ⟨?_, ?_⟩ <;> (omega)
  clear c_a0 c_a1 c_a2 c_a3 c_a4 c_a5 c_b0 c_b1 c_b2 c_b3 c_b4 c_b5 z_a z_b
  obtain ⟨c_a0, c_a1, c_a2, c_a3, c_a4, c_a5, c_b0, c_b1, c_b2, c_b3, c_b4, c_b5⟩ := all_c
  try clear all_c
  obtain ⟨z_a, z_b⟩ := all_z
  try clear all_z
  have hV2 : Below w.heap.size w v2 := by (repeat (first | (with_reducible exact Below.refl _ _) | (with_reducible assumption) | (with_reducible exact Hid.out (by with_reducible assumption)) | (with_reducible refine Below.alloc ?_ ?_ _) | (with_reducible refine Below.setCell ?_ ?_ _) | (with_reducible refine below_drewN ?_ _) | (with_reducible refine Below.drew ?_) | (with_reducible refine below_via (by with_reducible assumption) ?_ ?_) | (first | (with_reducible assumption) | omega | (simp only [World.size_alloc, World.size_setCell, World.size_drew, World.heap_drewN] <;> omega) | (simp <;> omega))))
  go_wp2_with fail
  refine (BA.out _ hV2).mono ?_
  rintro e w3 ⟨v, u, rfl, o1, o2, hb3⟩
  have hz_w3 := hb3.size
  try simp only [World.size_alloc, World.size_setCell] at hz_w3
  have all_c : w3.cell? ⟨w.heap.size, 0, none⟩ = some (.int .i64 aseg) ∧ w3.cell? ⟨w.heap.size, 1, none⟩ = some (.slice awa alw awc) ∧ w3.cell? ⟨w.heap.size, 2, none⟩ = some (.slice aka alk akc) ∧ w3.cell? ⟨w.heap.size, 3, none⟩ = some (.slice ava alv avc) ∧ w3.cell? ⟨w.heap.size, 4, none⟩ = some (.slice aca alc acc) ∧ w3.cell? ⟨w.heap.size, 5, none⟩ = some (.int .u64 alaid) ∧ w3.cell? ⟨w.heap.size + 1, 0, none⟩ = some (.int .i64 bseg) ∧ w3.cell? ⟨w.heap.size + 1, 1, none⟩ = some (.slice bwa blw bwc) ∧ w3.cell? ⟨w.heap.size + 1, 2, none⟩ = some (.slice bka blk bkc) ∧ w3.cell? ⟨w.heap.size + 1, 3, none⟩ = some (.slice bva blv bvc) ∧ w3.cell? ⟨w.heap.size + 1, 4, none⟩ = some (.slice bca blc bcc) ∧ w3.cell? ⟨w.heap.size + 1, 5, none⟩ = some (.int .u64 blaid) := by refine ⟨?_, ?_, ?_, ?_, ?_, ?_, ?_, ?_, ?_, ?_, ?_, ?_⟩ <;> (refine (hb3.cell ?_).trans ?_ <;> first | (first | (with_reducible assumption) | omega | (simp only [World.size_alloc, World.size_setCell, World.size_drew, World.heap_drewN] <;> omega) | (simp <;> omega)) | (first | (with_reducible assumption) | ((try simp (disch := first | omega | (simp only [World.size_alloc, World.size_setCell, World.size_drew, World.heap_drewN] <;> omega) | fail) only [World.cell?_alloc_past, World.cell?_alloc_at, World.frozen?_alloc_past, World.frozen?_alloc_at, World.frozen?_setCell, World.cell?_drew, World.frozen?_drew]) <;> first | (with_reducible assumption) | rfl)))
  have all_z : w.heap.size < w3.heap.size ∧ w.heap.size + 1 < w3.heap.size := by refine ⟨?_, ?_⟩ <;> (omega)
  clear c_a0 c_a1 c_a2 c_a3 c_a4 c_a5 c_b0 c_b1 c_b2 c_b3 c_b4 c_b5 z_a z_b
  obtain ⟨c_a0, c_a1, c_a2, c_a3, c_a4, c_a5, c_b0, c_b1, c_b2, c_b3, c_b4, c_b5⟩ := all_c
  try clear all_c
  obtain ⟨z_a, z_b⟩ := all_z
  try clear all_z
  have hB3 : Below w.heap.size w w3 := by (repeat (first | (with_reducible exact Below.refl _ _) | (with_reducible assumption) | (with_reducible exact Hid.out (by with_reducible assumption)) | (with_reducible refine Below.alloc ?_ ?_ _) | (with_reducible refine Below.setCell ?_ ?_ _) | (with_reducible refine below_drewN ?_ _) | (with_reducible refine Below.drew ?_) | (with_reducible refine below_via (by with_reducible assumption) ?_ ?_) | (first | (with_reducible assumption) | omega | (simp only [World.size_alloc, World.size_setCell, World.size_drew, World.heap_drewN] <;> omega) | (simp <;> omega))))
  obtain ⟨ma', mc', rfl, -⟩ := owns_news o1
  obtain ⟨ca', ck', rfl, -⟩ := owns_news o2
  clear o1 o2
  go_wp2_with fail
  refine (BB.out _ (by (repeat (first | (with_reducible exact Below.refl _ _) | (with_reducible assumption) | (with_reducible exact Hid.out (by with_reducible assumption)) | (with_reducible refine Below.alloc ?_ ?_ _) | (with_reducible refine Below.setCell ?_ ?_ _) | (with_reducible refine below_drewN ?_ _) | (with_reducible refine Below.drew ?_) | (with_reducible refine below_via (by with_reducible assumption) ?_ ?_) | (first | (with_reducible assumption) | omega | (simp only [World.size_alloc, World.size_setCell, World.size_drew, World.heap_drewN] <;> omega) | (simp <;> omega)))))).mono ?_
  rintro e w4 ⟨v, u, rfl, o1, o2, hb4⟩
  have hz_w4 := hb4.size
  try simp only [World.size_alloc, World.size_setCell] at hz_w4
  have all_c : w4.cell? ⟨w.heap.size, 0, none⟩ = some (.int .i64 aseg) ∧ w4.cell? ⟨w.heap.size, 1, none⟩ = some (.slice awa alw awc) ∧ w4.cell? ⟨w.heap.size, 2, none⟩ = some (.slice aka alk akc) ∧ w4.cell? ⟨w.heap.size, 3, none⟩ = some (.slice ava alv avc) ∧ w4.cell? ⟨w.heap.size, 4, none⟩ = some (.slice aca alc acc) ∧ w4.cell? ⟨w.heap.size, 5, none⟩ = some (.int .u64 alaid) ∧ w4.cell? ⟨w.heap.size + 1, 0, none⟩ = some (.int .i64 bseg) ∧ w4.cell? ⟨w.heap.size + 1, 1, none⟩ = some (.slice bwa blw bwc) ∧ w4.cell? ⟨w.heap.size + 1, 2, none⟩ = some (.slice bka blk bkc) ∧ w4.cell? ⟨w.heap.size + 1, 3, none⟩ = some (.slice bva blv bvc) ∧ w4.cell? ⟨w.heap.size + 1, 4, none⟩ = some (.slice bca blc bcc) ∧ w4.cell? ⟨w.heap.size + 1, 5, none⟩ = some (.int .u64 blaid) := by refine ⟨?_, ?_, ?_, ?_, ?_, ?_, ?_, ?_, ?_, ?_, ?_, ?_⟩ <;> (refine (hb4.cell ?_).trans ?_ <;> first | (first | (with_reducible assumption) | omega | (simp only [World.size_alloc, World.size_setCell, World.size_drew, World.heap_drewN] <;> omega) | (simp <;> omega)) | (first | (with_reducible assumption) | ((try simp (disch := first | omega | (simp only [World.size_alloc, World.size_setCell, World.size_drew, World.heap_drewN] <;> omega) | fail) only [World.cell?_alloc_past, World.cell?_alloc_at, World.frozen?_alloc_past, World.frozen?_alloc_at, World.frozen?_setCell, World.cell?_drew, World.frozen?_drew]) <;> first | (with_reducible assumption) | rfl)))
  have all_z : w.heap.size < w4.heap.size ∧ w.heap.size + 1 < w4.heap.size := by refine ⟨?_, ?_⟩ <;> (omega)
  clear c_a0 c_a1 c_a2 c_a3 c_a4 c_a5 c_b0 c_b1 c_b2 c_b3 c_b4 c_b5 z_a z_b
  obtain ⟨c_a0, c_a1, c_a2, c_a3, c_a4, c_a5, c_b0, c_b1, c_b2, c_b3, c_b4, c_b5⟩ := all_c
  try clear all_c
  obtain ⟨z_a, z_b⟩ := all_z
  try clear all_z
  have hB4 : Below w.heap.size w w4 := by (repeat (first | (with_reducible exact Below.refl _ _) | (with_reducible assumption) | (with_reducible exact Hid.out (by with_reducible assumption)) | (with_reducible refine Below.alloc ?_ ?_ _) | (with_reducible refine Below.setCell ?_ ?_ _) | (with_reducible refine below_drewN ?_ _) | (with_reducible refine Below.drew ?_) | (with_reducible refine below_via (by with_reducible assumption) ?_ ?_) | (first | (with_reducible assumption) | omega | (simp only [World.size_alloc, World.size_setCell, World.size_drew, World.heap_drewN] <;> omega) | (simp <;> omega))))
  obtain ⟨ma4, mc4, rfl, -⟩ := owns_news o1
  obtain ⟨ca4, ck4, rfl, -⟩ := owns_news o2
  clear o1 o2
  go_wp2_with fail
  refine (TU.out _ (by (repeat (first | (with_reducible exact Below.refl _ _) | (with_reducible assumption) | (with_reducible exact Hid.out (by with_reducible assumption)) | (with_reducible refine Below.alloc ?_ ?_ _) | (with_reducible refine Below.setCell ?_ ?_ _) | (with_reducible refine below_drewN ?_ _) | (with_reducible refine Below.drew ?_) | (with_reducible refine below_via (by with_reducible assumption) ?_ ?_) | (first | (with_reducible assumption) | omega | (simp only [World.size_alloc, World.size_setCell, World.size_drew, World.heap_drewN] <;> omega) | (simp <;> omega)))))).mono ?_
  rintro e w5 ⟨rfl, hb5⟩
  have hz_w5 := hb5.size
  try simp only [World.size_alloc, World.size_setCell] at hz_w5
  have hB5 : Below w.heap.size w w5 := by (repeat (first | (with_reducible exact Below.refl _ _) | (with_reducible assumption) | (with_reducible exact Hid.out (by with_reducible assumption)) | (with_reducible refine Below.alloc ?_ ?_ _) | (with_reducible refine Below.setCell ?_ ?_ _) | (with_reducible refine below_drewN ?_ _) | (with_reducible refine Below.drew ?_) | (with_reducible refine below_via (by with_reducible assumption) ?_ ?_) | (first | (with_reducible assumption) | omega | (simp only [World.size_alloc, World.size_setCell, World.size_drew, World.heap_drewN] <;> omega) | (simp <;> omega))))
  go_wp2
  go_ret
  exact ⟨rfl, by (repeat (first | (with_reducible exact Below.refl _ _) | (with_reducible assumption) | (with_reducible exact Hid.out (by with_reducible assumption)) | (with_reducible refine Below.alloc ?_ ?_ _) | (with_reducible refine Below.setCell ?_ ?_ _) | (with_reducible refine below_drewN ?_ _) | (with_reducible refine Below.drew ?_) | (with_reducible refine below_via (by with_reducible assumption) ?_ ?_) | (first | (with_reducible assumption) | omega | (simp only [World.size_alloc, World.size_setCell, World.size_drew, World.heap_drewN] <;> omega) | (simp <;> omega))))⟩

set_option maxRecDepth 100000 in
set_option maxHeartbeats 4000000 in
theorem MA_inaa (aseg : Int) (awa aka ava aca : Option Addr) (awc akc avc acc alw alk alv alc : Nat) (alaid : Int) (bseg : Int) (bwa bka bva bca : Option Addr) (bwc bkc bvc bcc blw blk blv blc : Nat) (blaid : Int) (lf rt : Int) (w : World) (Lc Ld : Int) (F T : Nat) (cm cc' dm dc : List Int) (G1 : Hid (∀ W, Calls Try.prog 10 #[.agg #[.int .i64 aseg, .slice awa alw awc, .slice aka alk akc, .slice ava alv avc, .slice aca alc acc, .int .u64 alaid], .int .i64 600] W (AnsB W (.bool false)))) (G2 : Hid (∀ W, Calls Try.prog 10 #[.agg #[.int .i64 bseg, .slice bwa blw bwc, .slice bka blk bkc, .slice bva blv bvc, .slice bca blc bcc, .int .u64 blaid], .int .i64 600] W (AnsB W (.bool false))))
    (hlf : 0 ≤ lf ∧ lf < 256) (hrt : 0 ≤ rt ∧ rt < 256) (hF : F ≤ 600) (hT : T ≤ 600) (hA : lf < (F : Int)) (hB : (T : Int) + rt < (blc : Int))
    (BA : Hid (∀ W, Below w.heap.size w W → Calls Try.prog 23 #[.agg #[.int .i64 aseg, .slice awa alw awc, .slice aka alk akc, .slice ava alv avc, .slice aca alc acc, .int .u64 alaid]] W (FreshIx2 W Lc cm cc' (.int .i64 0))))
    (BB : Hid (∀ W, Below w.heap.size w W → Calls Try.prog 23 #[.agg #[.int .i64 bseg, .slice bwa blw bwc, .slice bka blk bkc, .slice bva blv bvc, .slice bca blc bcc, .int .u64 blaid]] W (FreshIx2 W Ld dm dc (.int .i64 0))))
    (TU : Hid (∀ W, Below w.heap.size w W → Calls Try.prog 13 #[.agg #[.int .i64 aseg, .slice awa alw awc, .slice aka alk akc, .slice ava alv avc, .slice aca alc acc, .int .u64 alaid], .agg #[.int .i64 bseg, .slice bwa blw bwc, .slice bka blk bkc, .slice bva blv bvc, .slice bca blc bcc, .int .u64 blaid]] W (AnsB W (.tuple #[.int .i64 F, .int .i64 T, .int .i64 0]))))
    (WN : Hid (∀ xa xb xc xd W, Below w.heap.size w W → IsRow .i64 W xa cm → IsRow .i64 W xb cc' → Calls Try.prog 15 #[ixV Lc xa cm.length xc xb cc'.length xd, .agg #[.int .i64 bseg, .slice bwa blw bwc, .slice bka blk bkc, .slice bva blv bvc, .slice bca blc bcc, .int .u64 blaid], .int .i64 F, .int .i64 F] W (FreshIx2 W Lc cm cc' (.int .i64 0))))
    (WD : Hid (∀ xa xb xc xd W, Below w.heap.size w W → IsRow .i64 W xa cm → IsRow .i64 W xb cc' → Calls Try.prog 15 #[ixV Lc xa cm.length xc xb cc'.length xd, .agg #[.int .i64 bseg, .slice bwa blw bwc, .slice bka blk bkc, .slice bva blv bvc, .slice bca blc bcc, .int .u64 blaid], .int .i64 ((F : Int) - lf), .int .i64 ((T : Int) + rt)] W (FreshIx2 W Ld dm dc (.int .i64 0))))
    (SC : Hid (∀ xa xb ya yb xc xd yc yd W, IsRow .i64 W xa cm → IsRow .i64 W xb cc' → IsRow .i64 W ya cm → IsRow .i64 W yb cc' → Calls Try.prog 24 #[ixV Lc xa cm.length xc xb cc'.length xd, ixV Lc ya cm.length yc yb cc'.length yd] W (AnsB W (.bool true))))
    (SD : Hid (∀ xa xb ya yb xc xd yc yd W, IsRow .i64 W xa dm → IsRow .i64 W xb dc → IsRow .i64 W ya dm → IsRow .i64 W yb dc → Calls Try.prog 24 #[ixV Ld xa dm.length xc xb dc.length xd, ixV Ld ya dm.length yc yb dc.length yd] W (AnsB W (.bool true)))) :
    Calls Try.prog 5 #[.agg #[.int .i64 aseg, .slice awa alw awc, .slice aka alk akc, .slice ava alv avc, .slice aca alc acc, .int .u64 alaid], .agg #[.int .i64 bseg, .slice bwa blw bwc, .slice bka blk bkc, .slice bva blv bvc, .slice bca blc bcc, .int .u64 blaid], .int .u8 lf, .int .u8 rt] w (AnsB w (.bool true)) := by
  have AL := Lib.hid alive20_ok
  have k1 : IntKind.i64.wrap lf = lf := IntWalk.i64_in _ (by omega)
  have k2 : IntKind.i64.wrap rt = rt := IntWalk.i64_in _ (by omega)
  have k3 : IntKind.i64.wrap ((F : Int) - lf) = (F : Int) - lf := IntWalk.i64_in _ (by omega)
  have k4 : IntKind.i64.wrap ((T : Int) + rt) = (T : Int) + rt := IntWalk.i64_in _ (by omega)
  clear hlf hrt hF hT
  go_enter Try.func5, Try.ntmps5
  go_wp2_with fail
  refine (AL.out _).mono ?_
  rintro e w1 ⟨rfl, hb1⟩
  have hz_w1 := hb1.size
  try simp only [World.size_alloc, World.size_setCell] at hz_w1
  have all_c : w1.cell? ⟨w.heap.size, 0, none⟩ = some (.int .i64 aseg) ∧ w1.cell? ⟨w.heap.size, 1, none⟩ = some (.slice awa alw awc) ∧ w1.cell? ⟨w.heap.size, 2, none⟩ = some (.slice aka alk akc) ∧ w1.cell? ⟨w.heap.size, 3, none⟩ = some (.slice ava alv avc) ∧ w1.cell? ⟨w.heap.size, 4, none⟩ = some (.slice aca alc acc) ∧ w1.cell? ⟨w.heap.size, 5, none⟩ = some (.int .u64 alaid) ∧ w1.cell? ⟨w.heap.size + 1, 0, none⟩ = some (.int .i64 bseg) ∧ w1.cell? ⟨w.heap.size + 1, 1, none⟩ = some (.slice bwa blw bwc) ∧ w1.cell? ⟨w.heap.size + 1, 2, none⟩ = some (.slice bka blk bkc) ∧ w1.cell? ⟨w.heap.size + 1, 3, none⟩ = some (.slice bva blv bvc) ∧ w1.cell? ⟨w.heap.size + 1, 4, none⟩ = some (.slice bca blc bcc) ∧ w1.cell? ⟨w.heap.size + 1, 5, none⟩ = some (.int .u64 blaid) := by refine ⟨?_, ?_, ?_, ?_, ?_, ?_, ?_, ?_, ?_, ?_, ?_, ?_⟩ <;> (refine (hb1.cell ?_).trans ?_ <;> first | (first | (with_reducible assumption) | omega | (simp only [World.size_alloc, World.size_setCell, World.size_drew, World.heap_drewN] <;> omega) | (simp <;> omega)) | (first | (with_reducible assumption) | ((try simp (disch := first | omega | (simp only [World.size_alloc, World.size_setCell, World.size_drew, World.heap_drewN] <;> omega) | fail) only [World.cell?_alloc_past, World.cell?_alloc_at, World.frozen?_alloc_past, World.frozen?_alloc_at, World.frozen?_setCell, World.cell?_drew, World.frozen?_drew]) <;> first | (with_reducible assumption) | rfl)))
  have all_z : w.heap.size < w1.heap.size ∧ w.heap.size + 1 < w1.heap.size := by refine ⟨?_, ?_⟩ <;> (omega)
  obtain ⟨c_a0, c_a1, c_a2, c_a3, c_a4, c_a5, c_b0, c_b1, c_b2, c_b3, c_b4, c_b5⟩ := all_c
  try clear all_c
  obtain ⟨z_a, z_b⟩ := all_z
  try clear all_z
  have hB1 : Below w.heap.size w w1 := by (repeat (first | (with_reducible exact Below.refl _ _) | (with_reducible assumption) | (with_reducible exact Hid.out (by with_reducible assumption)) | (with_reducible refine Below.alloc ?_ ?_ _) | (with_reducible refine Below.setCell ?_ ?_ _) | (with_reducible refine below_drewN ?_ _) | (with_reducible refine Below.drew ?_) | (with_reducible refine below_via (by with_reducible assumption) ?_ ?_) | (first | (with_reducible assumption) | omega | (simp only [World.size_alloc, World.size_setCell, World.size_drew, World.heap_drewN] <;> omega) | (simp <;> omega))))
  go_wp2_with fail
  refine (G1.out _).mono ?_
  rintro e v1 ⟨rfl, hv1⟩
  have hz_v1 := hv1.size
  try simp only [World.size_alloc, World.size_setCell] at hz_v1
  have all_c : v1.cell? ⟨w.heap.size, 0, none⟩ = some (.int .i64 aseg) ∧ v1.cell? ⟨w.heap.size, 1, none⟩ = some (.slice awa alw awc) ∧ v1.cell? ⟨w.heap.size, 2, none⟩ = some (.slice aka alk akc) ∧ v1.cell? ⟨w.heap.size, 3, none⟩ = some (.slice ava alv avc) ∧ v1.cell? ⟨w.heap.size, 4, none⟩ = some (.slice aca alc acc) ∧ v1.cell? ⟨w.heap.size, 5, none⟩ = some (.int .u64 alaid) ∧ v1.cell? ⟨w.heap.size + 1, 0, none⟩ = some (.int .i64 bseg) ∧ v1.cell? ⟨w.heap.size + 1, 1, none⟩ = some (.slice bwa blw bwc) ∧ v1.cell? ⟨w.heap.size + 1, 2, none⟩ = some (.slice bka blk bkc) ∧ v1.cell? ⟨w.heap.size + 1, 3, none⟩ = some (.slice bva blv bvc) ∧ v1.cell? ⟨w.heap.size + 1, 4, none⟩ = some (.slice bca blc bcc) ∧ v1.cell? ⟨w.heap.size + 1, 5, none⟩ = some (.int .u64 blaid) := by refine ⟨?_, ?_, ?_, ?_, ?_, ?_, ?_, ?_, ?_, ?_, ?_, ?_⟩ <;> (refine (hv1.cell ?_).trans ?_ <;> first | (first | (with_reducible assumption) | omega | (simp only [World.size_alloc, World.size_setCell, World.size_drew, World.heap_drewN] <;> omega) | (simp <;> omega)) | (first | (with_reducible assumption) | ((try simp (disch := first | omega | (simp only [World.size_alloc, World.size_setCell, World.size_drew, World.heap_drewN] <;> omega) | fail) only [World.cell?_alloc_past, World.cell?_alloc_at, World.frozen?_alloc_past, World.frozen?_alloc_at, World.frozen?_setCell, World.cell?_drew, World.frozen?_drew]) <;> first | (with_reducible assumption) | rfl)))
  have all_z : w.heap.size < v1.heap.size ∧ w.heap.size + 1 < v1.heap.size := by refine ⟨?_, ?_⟩ <;> (omega)
  clear c_a0 c_a1 c_a2 c_a3 c_a4 c_a5 c_b0 c_b1 c_b2 c_b3 c_b4 c_b5 z_a z_b
  obtain ⟨c_a0, c_a1, c_a2, c_a3, c_a4, c_a5, c_b0, c_b1, c_b2, c_b3, c_b4, c_b5⟩ := all_c
  try clear all_c
  obtain ⟨z_a, z_b⟩ := all_z
  try clear all_z
  have hV1 : Below w.heap.size w v1 := by (repeat (first | (with_reducible exact Below.refl _ _) | (with_reducible assumption) | (with_reducible exact Hid.out (by with_reducible assumption)) | (with_reducible refine Below.alloc ?_ ?_ _) | (with_reducible refine Below.setCell ?_ ?_ _) | (with_reducible refine below_drewN ?_ _) | (with_reducible refine Below.drew ?_) | (with_reducible refine below_via (by with_reducible assumption) ?_ ?_) | (first | (with_reducible assumption) | omega | (simp only [World.size_alloc, World.size_setCell, World.size_drew, World.heap_drewN] <;> omega) | (simp <;> omega))))
  go_wp2_with fail
  refine (G2.out _).mono ?_
  rintro e v2 ⟨rfl, hv2⟩
  have hz_v2 := hv2.size
  try simp only [World.size_alloc, World.size_setCell] at hz_v2
  have all_c : v2.cell? ⟨w.heap.size, 0, none⟩ = some (.int .i64 aseg) ∧ v2.cell? ⟨w.heap.size, 1, none⟩ = some (.slice awa alw awc) ∧ v2.cell? ⟨w.heap.size, 2, none⟩ = some (.slice aka alk akc) ∧ v2.cell? ⟨w.heap.size, 3, none⟩ = some (.slice ava alv avc) ∧ v2.cell? ⟨w.heap.size, 4, none⟩ = some (.slice aca alc acc) ∧ v2.cell? ⟨w.heap.size, 5, none⟩ = some (.int .u64 alaid) ∧ v2.cell? ⟨w.heap.size + 1, 0, none⟩ = some (.int .i64 bseg) ∧ v2.cell? ⟨w.heap.size + 1, 1, none⟩ = some (.slice bwa blw bwc) ∧ v2.cell? ⟨w.heap.size + 1, 2, none⟩ = some (.slice bka blk bkc) ∧ v2.cell? ⟨w.heap.size + 1, 3, none⟩ = some (.slice bva blv bvc) ∧ v2.cell? ⟨w.heap.size + 1, 4, none⟩ = some (.slice bca blc bcc) ∧ v2.cell? ⟨w.heap.size + 1, 5, none⟩ = some (.int .u64 blaid) := by refine ⟨?_, ?_, ?_, ?_, ?_, ?_, ?_, ?_, ?_, ?_, ?_, ?_⟩ <;> (refine (hv2.cell ?_).trans ?_ <;> first | (first | (with_reducible assumption) | omega | (simp only [World.size_alloc, World.size_setCell, World.size_drew, World.heap_drewN] <;> omega) | (simp <;> omega)) | (first | (with_reducible assumption) | ((try simp (disch := first | omega | (simp only [World.size_alloc, World.size_setCell, World.size_drew, World.heap_drewN] <;> omega) | fail) only [World.cell?_alloc_past, World.cell?_alloc_at, World.frozen?_alloc_past, World.frozen?_alloc_at, World.frozen?_setCell, World.cell?_drew, World.frozen?_drew]) <;> first | (with_reducible assumption) | rfl)))
  have all_z : w.heap.size < v2.heap.size ∧ w.heap.size + 1 < v2.heap.size := by refine ⟨?_, ?_⟩ <;> (omega)
  clear c_a0 c_a1 c_a2 c_a3 c_a4 c_a5 c_b0 c_b1 c_b2 c_b3 c_b4 c_b5 z_a z_b
  obtain ⟨c_a0, c_a1, c_a2, c_a3, c_a4, c_a5, c_b0, c_b1, c_b2, c_b3, c_b4, c_b5⟩ := all_c
  try clear all_c
  obtain ⟨z_a, z_b⟩ := all_z
  try clear all_z
  have hV2 : Below w.heap.size w v2 := by (repeat (first | (with_reducible exact Below.refl _ _) | (with_reducible assumption) | (with_reducible exact Hid.out (by with_reducible assumption)) | (with_reducible refine Below.alloc ?_ ?_ _) | (with_reducible refine Below.setCell ?_ ?_ _) | (with_reducible refine below_drewN ?_ _) | (with_reducible refine Below.drew ?_) | (with_reducible refine below_via (by with_reducible assumption) ?_ ?_) | (first | (with_reducible assumption) | omega | (simp only [World.size_alloc, World.size_setCell, World.size_drew, World.heap_drewN] <;> omega) | (simp <;> omega))))
  go_wp2_with fail
  refine (BA.out _ hV2).mono ?_
  rintro e w3 ⟨v, u, rfl, o1, o2, hb3⟩
  have hz_w3 := hb3.size
  try simp only [World.size_alloc, World.size_setCell] at hz_w3
  have all_c : w3.cell? ⟨w.heap.size, 0, none⟩ = some (.int .i64 aseg) ∧ w3.cell? ⟨w.heap.size, 1, none⟩ = some (.slice awa alw awc) ∧ w3.cell? ⟨w.heap.size, 2, none⟩ = some (.slice aka alk akc) ∧ w3.cell? ⟨w.heap.size, 3, none⟩ = some (.slice ava alv avc) ∧ w3.cell? ⟨w.heap.size, 4, none⟩ = some (.slice aca alc acc) ∧ w3.cell? ⟨w.heap.size, 5, none⟩ = some (.int .u64 alaid) ∧ w3.cell? ⟨w.heap.size + 1, 0, none⟩ = some (.int .i64 bseg) ∧ w3.cell? ⟨w.heap.size + 1, 1, none⟩ = some (.slice bwa blw bwc) ∧ w3.cell? ⟨w.heap.size + 1, 2, none⟩ = some (.slice bka blk bkc) ∧ w3.cell? ⟨w.heap.size + 1, 3, none⟩ = some (.slice bva blv bvc) ∧ w3.cell? ⟨w.heap.size + 1, 4, none⟩ = some (.slice bca blc bcc) ∧ w3.cell? ⟨w.heap.size + 1, 5, none⟩ = some (.int .u64 blaid) := by refine ⟨?_, ?_, ?_, ?_, ?_, ?_, ?_, ?_, ?_, ?_, ?_, ?_⟩ <;> (refine (hb3.cell ?_).trans ?_ <;> first | (first | (with_reducible assumption) | omega | (simp only [World.size_alloc, World.size_setCell, World.size_drew, World.heap_drewN] <;> omega) | (simp <;> omega)) | (first | (with_reducible assumption) | ((try simp (disch := first | omega | (simp only [World.size_alloc, World.size_setCell, World.size_drew, World.heap_drewN] <;> omega) | fail) only [World.cell?_alloc_past, World.cell?_alloc_at, World.frozen?_alloc_past, World.frozen?_alloc_at, World.frozen?_setCell, World.cell?_drew, World.frozen?_drew]) <;> first | (with_reducible assumption) | rfl)))
  have all_z : w.heap.size < w3.heap.size ∧ w.heap.size + 1 < w3.heap.size := by refine ⟨?_, ?_⟩ <;> (omega)
  clear c_a0 c_a1 c_a2 c_a3 c_a4 c_a5 c_b0 c_b1 c_b2 c_b3 c_b4 c_b5 z_a z_b
  obtain ⟨c_a0, c_a1, c_a2, c_a3, c_a4, c_a5, c_b0, c_b1, c_b2, c_b3, c_b4, c_b5⟩ := all_c
  try clear all_c
  obtain ⟨z_a, z_b⟩ := all_z
  try clear all_z
  have hB3 : Below w.heap.size w w3 := by (repeat (first | (with_reducible exact Below.refl _ _) | (with_reducible assumption) | (with_reducible exact Hid.out (by with_reducible assumption)) | (with_reducible refine Below.alloc ?_ ?_ _) | (with_reducible refine Below.setCell ?_ ?_ _) | (with_reducible refine below_drewN ?_ _) | (with_reducible refine Below.drew ?_) | (with_reducible refine below_via (by with_reducible assumption) ?_ ?_) | (first | (with_reducible assumption) | omega | (simp only [World.size_alloc, World.size_setCell, World.size_drew, World.heap_drewN] <;> omega) | (simp <;> omega))))
  obtain ⟨ma', mc', rfl, i1, -, -, -, -⟩ := row_of_owns o1
  obtain ⟨ca', ck', rfl, i2, -, -, -, -⟩ := row_of_owns o2
  have I1 := Lib.hid (fun W (hb : Below w3.heap.size w3 W) => i1.below hb)
  have I2 := Lib.hid (fun W (hb : Below w3.heap.size w3 W) => i2.below hb)
  clear o1 o2 i1 i2 hb3
  have hx : Below w3.heap.size w3 (w3.alloc (.cells #[.int .i64 Lc, .slice ma' cm.length mc', .slice ca' cc'.length ck'] 25)) := (Below.refl _ _).alloc (Nat.le_refl _) _
  go_wp2_with fail
  refine (BB.out _ (by (repeat (first | (with_reducible exact Below.refl _ _) | (with_reducible assumption) | (with_reducible exact Hid.out (by with_reducible assumption)) | (with_reducible refine Below.alloc ?_ ?_ _) | (with_reducible refine Below.setCell ?_ ?_ _) | (with_reducible refine below_drewN ?_ _) | (with_reducible refine Below.drew ?_) | (with_reducible refine below_via (by with_reducible assumption) ?_ ?_) | (first | (with_reducible assumption) | omega | (simp only [World.size_alloc, World.size_setCell, World.size_drew, World.heap_drewN] <;> omega) | (simp <;> omega)))))).mono ?_
  rintro e w4 ⟨v, u, rfl, o1, o2, hb4⟩
  have hz_w4 := hb4.size
  try simp only [World.size_alloc, World.size_setCell] at hz_w4
  have all_c : w4.cell? ⟨w.heap.size, 0, none⟩ = some (.int .i64 aseg) ∧ w4.cell? ⟨w.heap.size, 1, none⟩ = some (.slice awa alw awc) ∧ w4.cell? ⟨w.heap.size, 2, none⟩ = some (.slice aka alk akc) ∧ w4.cell? ⟨w.heap.size, 3, none⟩ = some (.slice ava alv avc) ∧ w4.cell? ⟨w.heap.size, 4, none⟩ = some (.slice aca alc acc) ∧ w4.cell? ⟨w.heap.size, 5, none⟩ = some (.int .u64 alaid) ∧ w4.cell? ⟨w.heap.size + 1, 0, none⟩ = some (.int .i64 bseg) ∧ w4.cell? ⟨w.heap.size + 1, 1, none⟩ = some (.slice bwa blw bwc) ∧ w4.cell? ⟨w.heap.size + 1, 2, none⟩ = some (.slice bka blk bkc) ∧ w4.cell? ⟨w.heap.size + 1, 3, none⟩ = some (.slice bva blv bvc) ∧ w4.cell? ⟨w.heap.size + 1, 4, none⟩ = some (.slice bca blc bcc) ∧ w4.cell? ⟨w.heap.size + 1, 5, none⟩ = some (.int .u64 blaid) ∧ w4.cell? ⟨w3.heap.size, 0, none⟩ = some (.int .i64 Lc) ∧ w4.cell? ⟨w3.heap.size, 1, none⟩ = some (.slice ma' cm.length mc') ∧ w4.cell? ⟨w3.heap.size, 2, none⟩ = some (.slice ca' cc'.length ck') := by refine ⟨?_, ?_, ?_, ?_, ?_, ?_, ?_, ?_, ?_, ?_, ?_, ?_, ?_, ?_, ?_⟩ <;> (refine (hb4.cell ?_).trans ?_ <;> first | (first | (with_reducible assumption) | omega | (simp only [World.size_alloc, World.size_setCell, World.size_drew, World.heap_drewN] <;> omega) | (simp <;> omega)) | (first | (with_reducible assumption) | ((try simp (disch := first | omega | (simp only [World.size_alloc, World.size_setCell, World.size_drew, World.heap_drewN] <;> omega) | fail) only [World.cell?_alloc_past, World.cell?_alloc_at, World.frozen?_alloc_past, World.frozen?_alloc_at, World.frozen?_setCell, World.cell?_drew, World.frozen?_drew]) <;> first | (with_reducible assumption) | rfl)))
  have all_z : w.heap.size < w4.heap.size ∧ w.heap.size + 1 < w4.heap.size ∧ w3.heap.size < w4.heap.size := by refine ⟨?_, ?_, ?_⟩ <;> (omega)
  clear c_a0 c_a1 c_a2 c_a3 c_a4 c_a5 c_b0 c_b1 c_b2 c_b3 c_b4 c_b5 z_a z_b
  obtain ⟨c_a0, c_a1, c_a2, c_a3, c_a4, c_a5, c_b0, c_b1, c_b2, c_b3, c_b4, c_b5, c_x0, c_x1, c_x2⟩ := all_c
  try clear all_c
  obtain ⟨z_a, z_b, z_x⟩ := all_z
  try clear all_z
  have h4 : Below w3.heap.size w3 w4 := below_via hb4 hx (by simp)
  obtain ⟨ma4, mc4, rfl, i1, -, -, -, -⟩ := row_of_owns o1
  obtain ⟨ca4, ck4, rfl, i2, -, -, -, -⟩ := row_of_owns o2
  have J1 := Lib.hid (fun W (hb : Below w4.heap.size w4 W) => i1.below hb)
  have J2 := Lib.hid (fun W (hb : Below w4.heap.size w4 W) => i2.below hb)
  clear o1 o2 i1 i2 hb4 hx
  have hz : Below w4.heap.size w4 (w4.alloc (.cells #[.int .i64 Ld, .slice ma4 dm.length mc4, .slice ca4 dc.length ck4] 25)) := (Below.refl _ _).alloc (Nat.le_refl _) _
  go_wp2_with fail
  refine (TU.out _ (by (repeat (first | (with_reducible exact Below.refl _ _) | (with_reducible assumption) | (with_reducible exact Hid.out (by with_reducible assumption)) | (with_reducible refine Below.alloc ?_ ?_ _) | (with_reducible refine Below.setCell ?_ ?_ _) | (with_reducible refine below_drewN ?_ _) | (with_reducible refine Below.drew ?_) | (with_reducible refine below_via (by with_reducible assumption) ?_ ?_) | (first | (with_reducible assumption) | omega | (simp only [World.size_alloc, World.size_setCell, World.size_drew, World.heap_drewN] <;> omega) | (simp <;> omega)))))).mono ?_
  rintro e w5 ⟨rfl, hb5⟩
  have hz_w5 := hb5.size
  try simp only [World.size_alloc, World.size_setCell] at hz_w5
  have all_c : w5.cell? ⟨w.heap.size + 1, 0, none⟩ = some (.int .i64 bseg) ∧ w5.cell? ⟨w.heap.size + 1, 1, none⟩ = some (.slice bwa blw bwc) ∧ w5.cell? ⟨w.heap.size + 1, 2, none⟩ = some (.slice bka blk bkc) ∧ w5.cell? ⟨w.heap.size + 1, 3, none⟩ = some (.slice bva blv bvc) ∧ w5.cell? ⟨w.heap.size + 1, 4, none⟩ = some (.slice bca blc bcc) ∧ w5.cell? ⟨w.heap.size + 1, 5, none⟩ = some (.int .u64 blaid) ∧ w5.cell? ⟨w3.heap.size, 0, none⟩ = some (.int .i64 Lc) ∧ w5.cell? ⟨w3.heap.size, 1, none⟩ = some (.slice ma' cm.length mc') ∧ w5.cell? ⟨w3.heap.size, 2, none⟩ = some (.slice ca' cc'.length ck') ∧ w5.cell? ⟨w4.heap.size, 0, none⟩ = some (.int .i64 Ld) ∧ w5.cell? ⟨w4.heap.size, 1, none⟩ = some (.slice ma4 dm.length mc4) ∧ w5.cell? ⟨w4.heap.size, 2, none⟩ = some (.slice ca4 dc.length ck4) := by refine ⟨?_, ?_, ?_, ?_, ?_, ?_, ?_, ?_, ?_, ?_, ?_, ?_⟩ <;> (refine (hb5.cell ?_).trans ?_ <;> first | (first | (with_reducible assumption) | omega | (simp only [World.size_alloc, World.size_setCell, World.size_drew, World.heap_drewN] <;> omega) | (simp <;> omega)) | (first | (with_reducible assumption) | ((try simp (disch := first | omega | (simp only [World.size_alloc, World.size_setCell, World.size_drew, World.heap_drewN] <;> omega) | fail) only [World.cell?_alloc_past, World.cell?_alloc_at, World.frozen?_alloc_past, World.frozen?_alloc_at, World.frozen?_setCell, World.cell?_drew, World.frozen?_drew]) <;> first | (with_reducible assumption) | rfl)))
  have all_z : w.heap.size + 1 < w5.heap.size ∧ w3.heap.size < w5.heap.size ∧ w4.heap.size < w5.heap.size := by refine ⟨?_, ?_, ?_⟩ <;> (omega)
  clear c_b0 c_b1 c_b2 c_b3 c_b4 c_b5 c_x0 c_x1 c_x2 z_b z_x
  obtain ⟨c_b0, c_b1, c_b2, c_b3, c_b4, c_b5, c_x0, c_x1, c_x2, c_z0, c_z1, c_z2⟩ := all_c
  try clear all_c
  obtain ⟨z_b, z_x, z_z⟩ := all_z
  try clear all_z
  have h45 : Below w4.heap.size w4 w5 := below_via hb5 hz (by simp)
  have h35 : Below w3.heap.size w3 w5 := below_via h45 h4 (by omega)
  clear hb5 hz h4
  go_wp2_with fail
  refine (WN.out ma' ca' mc' ck' _ (by (repeat (first | (with_reducible exact Below.refl _ _) | (with_reducible assumption) | (with_reducible exact Hid.out (by with_reducible assumption)) | (with_reducible refine Below.alloc ?_ ?_ _) | (with_reducible refine Below.setCell ?_ ?_ _) | (with_reducible refine below_drewN ?_ _) | (with_reducible refine Below.drew ?_) | (with_reducible refine below_via (by with_reducible assumption) ?_ ?_) | (first | (with_reducible assumption) | omega | (simp only [World.size_alloc, World.size_setCell, World.size_drew, World.heap_drewN] <;> omega) | (simp <;> omega))))) (I1.out _ h35) (I2.out _ h35)).mono ?_
  rintro e w6 ⟨v, u, rfl, o1, o2, hb6⟩
  have hz_w6 := hb6.size
  try simp only [World.size_alloc, World.size_setCell] at hz_w6
  have all_c : w6.cell? ⟨w.heap.size + 1, 0, none⟩ = some (.int .i64 bseg) ∧ w6.cell? ⟨w.heap.size + 1, 1, none⟩ = some (.slice bwa blw bwc) ∧ w6.cell? ⟨w.heap.size + 1, 2, none⟩ = some (.slice bka blk bkc) ∧ w6.cell? ⟨w.heap.size + 1, 3, none⟩ = some (.slice bva blv bvc) ∧ w6.cell? ⟨w.heap.size + 1, 4, none⟩ = some (.slice bca blc bcc) ∧ w6.cell? ⟨w.heap.size + 1, 5, none⟩ = some (.int .u64 blaid) ∧ w6.cell? ⟨w3.heap.size, 0, none⟩ = some (.int .i64 Lc) ∧ w6.cell? ⟨w3.heap.size, 1, none⟩ = some (.slice ma' cm.length mc') ∧ w6.cell? ⟨w3.heap.size, 2, none⟩ = some (.slice ca' cc'.length ck') ∧ w6.cell? ⟨w4.heap.size, 0, none⟩ = some (.int .i64 Ld) ∧ w6.cell? ⟨w4.heap.size, 1, none⟩ = some (.slice ma4 dm.length mc4) ∧ w6.cell? ⟨w4.heap.size, 2, none⟩ = some (.slice ca4 dc.length ck4) := by refine ⟨?_, ?_, ?_, ?_, ?_, ?_, ?_, ?_, ?_, ?_, ?_, ?_⟩ <;> (refine (hb6.cell ?_).trans ?_ <;> first | (first | (with_reducible assumption) | omega | (simp only [World.size_alloc, World.size_setCell, World.size_drew, World.heap_drewN] <;> omega) | (simp <;> omega)) | (first | (with_reducible assumption) | ((try simp (disch := first | omega | (simp only [World.size_alloc, World.size_setCell, World.size_drew, World.heap_drewN] <;> omega) | fail) only [World.cell?_alloc_past, World.cell?_alloc_at, World.frozen?_alloc_past, World.frozen?_alloc_at, World.frozen?_setCell, World.cell?_drew, World.frozen?_drew]) <;> first | (with_reducible assumption) | rfl)))
  have all_z : w.heap.size + 1 < w6.heap.size ∧ w3.heap.size < w6.heap.size ∧ w4.heap.size < w6.heap.size := by refine ⟨?_, ?_, ?_⟩ <;> (omega)
  clear c_b0 c_b1 c_b2 c_b3 c_b4 c_b5 c_x0 c_x1 c_x2 c_z0 c_z1 c_z2 z_b z_x z_z
  obtain ⟨c_b0, c_b1, c_b2, c_b3, c_b4, c_b5, c_x0, c_x1, c_x2, c_z0, c_z1, c_z2⟩ := all_c
  try clear all_c
  obtain ⟨z_b, z_x, z_z⟩ := all_z
  try clear all_z
  have h46 : Below w4.heap.size w4 w6 := below_via hb6 h45 (by omega)
  have h36 : Below w3.heap.size w3 w6 := below_via hb6 h35 (by omega)
  obtain ⟨ma6, mc6, rfl, i1, -, -, -, -⟩ := row_of_owns o1
  obtain ⟨ca6, ck6, rfl, i2, -, -, -, -⟩ := row_of_owns o2
  have M1 := Lib.hid (fun W (hb : Below w6.heap.size w6 W) => i1.below hb)
  have M2 := Lib.hid (fun W (hb : Below w6.heap.size w6 W) => i2.below hb)
  clear o1 o2 i1 i2 hb6 h45 h35
  have hn : Below w6.heap.size w6 (w6.alloc (.cells #[.int .i64 Lc, .slice ma6 cm.length mc6, .slice ca6 cc'.length ck6] 25)) := (Below.refl _ _).alloc (Nat.le_refl _) _
  have hn3 : Below w3.heap.size w3 (w6.alloc (.cells #[.int .i64 Lc, .slice ma6 cm.length mc6, .slice ca6 cc'.length ck6] 25)) := h36.alloc (by omega) _
  have hn4 : Below w4.heap.size w4 (w6.alloc (.cells #[.int .i64 Lc, .slice ma6 cm.length mc6, .slice ca6 cc'.length ck6] 25)) := h46.alloc (by omega) _
  go_wp2_with fail
  refine (WD.out ma' ca' mc' ck' _ (by (repeat (first | (with_reducible exact Below.refl _ _) | (with_reducible assumption) | (with_reducible exact Hid.out (by with_reducible assumption)) | (with_reducible refine Below.alloc ?_ ?_ _) | (with_reducible refine Below.setCell ?_ ?_ _) | (with_reducible refine below_drewN ?_ _) | (with_reducible refine Below.drew ?_) | (with_reducible refine below_via (by with_reducible assumption) ?_ ?_) | (first | (with_reducible assumption) | omega | (simp only [World.size_alloc, World.size_setCell, World.size_drew, World.heap_drewN] <;> omega) | (simp <;> omega))))) (I1.out _ hn3) (I2.out _ hn3)).mono ?_
  rintro e w7 ⟨v, u, rfl, o1, o2, hb7⟩
  have hz_w7 := hb7.size
  try simp only [World.size_alloc, World.size_setCell] at hz_w7
  have all_c : w7.cell? ⟨w3.heap.size, 0, none⟩ = some (.int .i64 Lc) ∧ w7.cell? ⟨w3.heap.size, 1, none⟩ = some (.slice ma' cm.length mc') ∧ w7.cell? ⟨w3.heap.size, 2, none⟩ = some (.slice ca' cc'.length ck') ∧ w7.cell? ⟨w4.heap.size, 0, none⟩ = some (.int .i64 Ld) ∧ w7.cell? ⟨w4.heap.size, 1, none⟩ = some (.slice ma4 dm.length mc4) ∧ w7.cell? ⟨w4.heap.size, 2, none⟩ = some (.slice ca4 dc.length ck4) ∧ w7.cell? ⟨w6.heap.size, 0, none⟩ = some (.int .i64 Lc) ∧ w7.cell? ⟨w6.heap.size, 1, none⟩ = some (.slice ma6 cm.length mc6) ∧ w7.cell? ⟨w6.heap.size, 2, none⟩ = some (.slice ca6 cc'.length ck6) := by refine ⟨?_, ?_, ?_, ?_, ?_, ?_, ?_, ?_, ?_⟩ <;> (refine (hb7.cell ?_).trans ?_ <;> first | (first | (with_reducible assumption) | omega | (simp only [World.size_alloc, World.size_setCell, World.size_drew, World.heap_drewN] <;> omega) | (simp <;> omega)) | (first | (with_reducible assumption) | ((try simp (disch := first | omega | (simp only [World.size_alloc, World.size_setCell, World.size_drew, World.heap_drewN] <;> omega) | fail) only [World.cell?_alloc_past, World.cell?_alloc_at, World.frozen?_alloc_past, World.frozen?_alloc_at, World.frozen?_setCell, World.cell?_drew, World.frozen?_drew]) <;> first | (with_reducible assumption) | rfl)))
  have all_z : w3.heap.size < w7.heap.size ∧ w4.heap.size < w7.heap.size ∧ w6.heap.size < w7.heap.size := by refine ⟨?_, ?_, ?_⟩ <;> (omega)
  clear c_x0 c_x1 c_x2 c_z0 c_z1 c_z2 z_x z_z
  obtain ⟨c_x0, c_x1, c_x2, c_z0, c_z1, c_z2, c_n0, c_n1, c_n2⟩ := all_c
  try clear all_c
  obtain ⟨z_x, z_z, z_n⟩ := all_z
  try clear all_z
  have h67 : Below w6.heap.size w6 w7 := below_via hb7 hn (by simp)
  have h47 : Below w4.heap.size w4 w7 := below_via hb7 hn4 (by simp <;> omega)
  have h37 : Below w3.heap.size w3 w7 := below_via hb7 hn3 (by simp <;> omega)
  obtain ⟨ma7, mc7, rfl, i1, -, -, -, -⟩ := row_of_owns o1
  obtain ⟨ca7, ck7, rfl, i2, -, -, -, -⟩ := row_of_owns o2
  have N1 := Lib.hid (fun W (hb : Below w7.heap.size w7 W) => i1.below hb)
  have N2 := Lib.hid (fun W (hb : Below w7.heap.size w7 W) => i2.below hb)
  clear o1 o2 i1 i2 hb7 hn hn3 hn4 h46 h36
  have hy : Below w7.heap.size w7 (w7.alloc (.cells #[.int .i64 Ld, .slice ma7 dm.length mc7, .slice ca7 dc.length ck7] 25)) := (Below.refl _ _).alloc (Nat.le_refl _) _
  have hy6 := below_via hy h67 (by omega)
  have hy3 := below_via hy h37 (by omega)
  have hy4 := below_via hy h47 (by omega)
  go_wp2_with fail
  refine (SC.out ma6 ca6 ma' ca' mc6 ck6 mc' ck' _ (M1.out _ hy6) (M2.out _ hy6) (I1.out _ hy3) (I2.out _ hy3)).mono ?_
  rintro e w8 ⟨rfl, hb8⟩
  have hz_w8 := hb8.size
  try simp only [World.size_alloc, World.size_setCell] at hz_w8
  have all_c : w8.cell? ⟨w4.heap.size, 0, none⟩ = some (.int .i64 Ld) ∧ w8.cell? ⟨w4.heap.size, 1, none⟩ = some (.slice ma4 dm.length mc4) ∧ w8.cell? ⟨w4.heap.size, 2, none⟩ = some (.slice ca4 dc.length ck4) ∧ w8.cell? ⟨w7.heap.size, 0, none⟩ = some (.int .i64 Ld) ∧ w8.cell? ⟨w7.heap.size, 1, none⟩ = some (.slice ma7 dm.length mc7) ∧ w8.cell? ⟨w7.heap.size, 2, none⟩ = some (.slice ca7 dc.length ck7) := by refine ⟨?_, ?_, ?_, ?_, ?_, ?_⟩ <;> (refine (hb8.cell ?_).trans ?_ <;> first | (first | (with_reducible assumption) | omega | (simp only [World.size_alloc, World.size_setCell, World.size_drew, World.heap_drewN] <;> omega) | (simp <;> omega)) | (first | (with_reducible assumption) | ((try simp (disch := first | omega | (simp only [World.size_alloc, World.size_setCell, World.size_drew, World.heap_drewN] <;> omega) | fail) only [World.cell?_alloc_past, World.cell?_alloc_at, World.frozen?_alloc_past, World.frozen?_alloc_at, World.frozen?_setCell, World.cell?_drew, World.frozen?_drew]) <;> first | (with_reducible assumption) | rfl)))
  have all_z : w4.heap.size < w8.heap.size ∧ w7.heap.size < w8.heap.size := by refine ⟨?_, ?_⟩ <;> (omega)
  clear c_z0 c_z1 c_z2 z_z
  obtain ⟨c_z0, c_z1, c_z2, c_y0, c_y1, c_y2⟩ := all_c
  try clear all_c
  obtain ⟨z_z, z_y⟩ := all_z
  try clear all_z
  have h8 : Below w7.heap.size w7 w8 := below_via hb8 hy (by simp)
  have h84 : Below w4.heap.size w4 w8 := below_via h8 h47 (by omega)
  have h83 : Below w3.heap.size w3 w8 := below_via h8 h37 (by omega)
  clear hb8 hy hy6 hy3 hy4
  go_wp2_with fail
  refine (SD.out ma7 ca7 ma4 ca4 mc7 ck7 mc4 ck4 _ (N1.out _ h8) (N2.out _ h8) (J1.out _ h84) (J2.out _ h84)).mono ?_
  rintro e w9 ⟨rfl, hb9⟩
  have hz_w9 := hb9.size
  try simp only [World.size_alloc, World.size_setCell] at hz_w9
  go_wp2
  go_ret
  exact ⟨rfl, below_via hb9 (below_via h83 hB3 (by omega)) (by omega)⟩

set_option maxRecDepth 100000 in
set_option maxHeartbeats 4000000 in
theorem MA_inab (aseg : Int) (awa aka ava aca : Option Addr) (awc akc avc acc alw alk alv alc : Nat) (alaid : Int) (bseg : Int) (bwa bka bva bca : Option Addr) (bwc bkc bvc bcc blw blk blv blc : Nat) (blaid : Int) (lf rt : Int) (w : World) (Lc Ld : Int) (F T : Nat) (cm cc' dm dc : List Int) (G1 : Hid (∀ W, Calls Try.prog 10 #[.agg #[.int .i64 aseg, .slice awa alw awc, .slice aka alk akc, .slice ava alv avc, .slice aca alc acc, .int .u64 alaid], .int .i64 600] W (AnsB W (.bool false)))) (G2 : Hid (∀ W, Calls Try.prog 10 #[.agg #[.int .i64 bseg, .slice bwa blw bwc, .slice bka blk bkc, .slice bva blv bvc, .slice bca blc bcc, .int .u64 blaid], .int .i64 600] W (AnsB W (.bool false))))
    (hlf : 0 ≤ lf ∧ lf < 256) (hrt : 0 ≤ rt ∧ rt < 256) (hF : F ≤ 600) (hT : T ≤ 600) (hA : lf < (F : Int)) (hB : (blc : Int) ≤ (T : Int) + rt)
    (BA : Hid (∀ W, Below w.heap.size w W → Calls Try.prog 23 #[.agg #[.int .i64 aseg, .slice awa alw awc, .slice aka alk akc, .slice ava alv avc, .slice aca alc acc, .int .u64 alaid]] W (FreshIx2 W Lc cm cc' (.int .i64 0))))
    (BB : Hid (∀ W, Below w.heap.size w W → Calls Try.prog 23 #[.agg #[.int .i64 bseg, .slice bwa blw bwc, .slice bka blk bkc, .slice bva blv bvc, .slice bca blc bcc, .int .u64 blaid]] W (FreshIx2 W Ld dm dc (.int .i64 0))))
    (TU : Hid (∀ W, Below w.heap.size w W → Calls Try.prog 13 #[.agg #[.int .i64 aseg, .slice awa alw awc, .slice aka alk akc, .slice ava alv avc, .slice aca alc acc, .int .u64 alaid], .agg #[.int .i64 bseg, .slice bwa blw bwc, .slice bka blk bkc, .slice bva blv bvc, .slice bca blc bcc, .int .u64 blaid]] W (AnsB W (.tuple #[.int .i64 F, .int .i64 T, .int .i64 0]))))
    (WN : Hid (∀ xa xb xc xd W, Below w.heap.size w W → IsRow .i64 W xa cm → IsRow .i64 W xb cc' → Calls Try.prog 15 #[ixV Lc xa cm.length xc xb cc'.length xd, .agg #[.int .i64 bseg, .slice bwa blw bwc, .slice bka blk bkc, .slice bva blv bvc, .slice bca blc bcc, .int .u64 blaid], .int .i64 F, .int .i64 F] W (FreshIx2 W Lc cm cc' (.int .i64 0))))
    (WD : Hid (∀ xa xb xc xd W, Below w.heap.size w W → IsRow .i64 W xa cm → IsRow .i64 W xb cc' → Calls Try.prog 15 #[ixV Lc xa cm.length xc xb cc'.length xd, .agg #[.int .i64 bseg, .slice bwa blw bwc, .slice bka blk bkc, .slice bva blv bvc, .slice bca blc bcc, .int .u64 blaid], .int .i64 ((F : Int) - lf), .int .i64 blc] W (FreshIx2 W Ld dm dc (.int .i64 0))))
    (SC : Hid (∀ xa xb ya yb xc xd yc yd W, IsRow .i64 W xa cm → IsRow .i64 W xb cc' → IsRow .i64 W ya cm → IsRow .i64 W yb cc' → Calls Try.prog 24 #[ixV Lc xa cm.length xc xb cc'.length xd, ixV Lc ya cm.length yc yb cc'.length yd] W (AnsB W (.bool true))))
    (SD : Hid (∀ xa xb ya yb xc xd yc yd W, IsRow .i64 W xa dm → IsRow .i64 W xb dc → IsRow .i64 W ya dm → IsRow .i64 W yb dc → Calls Try.prog 24 #[ixV Ld xa dm.length xc xb dc.length xd, ixV Ld ya dm.length yc yb dc.length yd] W (AnsB W (.bool true)))) :
    Calls Try.prog 5 #[.agg #[.int .i64 aseg, .slice awa alw awc, .slice aka alk akc, .slice ava alv avc, .slice aca alc acc, .int .u64 alaid], .agg #[.int .i64 bseg, .slice bwa blw bwc, .slice bka blk bkc, .slice bva blv bvc, .slice bca blc bcc, .int .u64 blaid], .int .u8 lf, .int .u8 rt] w (AnsB w (.bool true)) := by
  have AL := Lib.hid alive20_ok
  have k1 : IntKind.i64.wrap lf = lf := IntWalk.i64_in _ (by omega)
  have k2 : IntKind.i64.wrap rt = rt := IntWalk.i64_in _ (by omega)
  have k3 : IntKind.i64.wrap ((F : Int) - lf) = (F : Int) - lf := IntWalk.i64_in _ (by omega)
  have k4 : IntKind.i64.wrap ((T : Int) + rt) = (T : Int) + rt := IntWalk.i64_in _ (by omega)
  clear hlf hrt hF hT
  go_enter Try.func5, Try.ntmps5
  go_wp2_with fail
  refine (AL.out _).mono ?_
  rintro e w1 ⟨rfl, hb1⟩
  have hz_w1 := hb1.size
  try simp only [World.size_alloc, World.size_setCell] at hz_w1
  have all_c : w1.cell? ⟨w.heap.size, 0, none⟩ = some (.int .i64 aseg) ∧ w1.cell? ⟨w.heap.size, 1, none⟩ = some (.slice awa alw awc) ∧ w1.cell? ⟨w.heap.size, 2, none⟩ = some (.slice aka alk akc) ∧ w1.cell? ⟨w.heap.size, 3, none⟩ = some (.slice ava alv avc) ∧ w1.cell? ⟨w.heap.size, 4, none⟩ = some (.slice aca alc acc) ∧ w1.cell? ⟨w.heap.size, 5, none⟩ = some (.int .u64 alaid) ∧ w1.cell? ⟨w.heap.size + 1, 0, none⟩ = some (.int .i64 bseg) ∧ w1.cell? ⟨w.heap.size + 1, 1, none⟩ = some (.slice bwa blw bwc) ∧ w1.cell? ⟨w.heap.size + 1, 2, none⟩ = some (.slice bka blk bkc) ∧ w1.cell? ⟨w.heap.size + 1, 3, none⟩ = some (.slice bva blv bvc) ∧ w1.cell? ⟨w.heap.size + 1, 4, none⟩ = some (.slice bca blc bcc) ∧ w1.cell? ⟨w.heap.size + 1, 5, none⟩ = some (.int .u64 blaid) := by refine ⟨?_, ?_, ?_, ?_, ?_, ?_, ?_, ?_, ?_, ?_, ?_, ?_⟩ <;> (refine (hb1.cell ?_).trans ?_ <;> first | (first | (with_reducible assumption) | omega | (simp only [World.size_alloc, World.size_setCell, World.size_drew, World.heap_drewN] <;> omega) | (simp <;> omega)) | (first | (with_reducible assumption) | ((try simp (disch := first | omega | (simp only [World.size_alloc, World.size_setCell, World.size_drew, World.heap_drewN] <;> omega) | fail) only [World.cell?_alloc_past, World.cell?_alloc_at, World.frozen?_alloc_past, World.frozen?_alloc_at, World.frozen?_setCell, World.cell?_drew, World.frozen?_drew]) <;> first | (with_reducible assumption) | rfl)))
  have all_z : w.heap.size < w1.heap.size ∧ w.heap.size + 1 < w1.heap.size := by refine ⟨?_, ?_⟩ <;> (omega)
  obtain ⟨c_a0, c_a1, c_a2, c_a3, c_a4, c_a5, c_b0, c_b1, c_b2, c_b3, c_b4, c_b5⟩ := all_c
  try clear all_c
  obtain ⟨z_a, z_b⟩ := all_z
  try clear all_z
  have hB1 : Below w.heap.size w w1 := by (repeat (first | (with_reducible exact Below.refl _ _) | (with_reducible assumption) | (with_reducible exact Hid.out (by with_reducible assumption)) | (with_reducible refine Below.alloc ?_ ?_ _) | (with_reducible refine Below.setCell ?_ ?_ _) | (with_reducible refine below_drewN ?_ _) | (with_reducible refine Below.drew ?_) | (with_reducible refine below_via (by with_reducible assumption) ?_ ?_) | (first | (with_reducible assumption) | omega | (simp only [World.size_alloc, World.size_setCell, World.size_drew, World.heap_drewN] <;> omega) | (simp <;> omega))))
  go_wp2_with fail
  refine (G1.out _).mono ?_
  rintro e v1 ⟨rfl, hv1⟩
  have hz_v1 := hv1.size
  try simp only [World.size_alloc, World.size_setCell] at hz_v1
  have all_c : v1.cell? ⟨w.heap.size, 0, none⟩ = some (.int .i64 aseg) ∧ v1.cell? ⟨w.heap.size, 1, none⟩ = some (.slice awa alw awc) ∧ v1.cell? ⟨w.heap.size, 2, none⟩ = some (.slice aka alk akc) ∧ v1.cell? ⟨w.heap.size, 3, none⟩ = some (.slice ava alv avc) ∧ v1.cell? ⟨w.heap.size, 4, none⟩ = some (.slice aca alc acc) ∧ v1.cell? ⟨w.heap.size, 5, none⟩ = some (.int .u64 alaid) ∧ v1.cell? ⟨w.heap.size + 1, 0, none⟩ = some (.int .i64 bseg) ∧ v1.cell? ⟨w.heap.size + 1, 1, none⟩ = some (.slice bwa blw bwc) ∧ v1.cell? ⟨w.heap.size + 1, 2, none⟩ = some (.slice bka blk bkc) ∧ v1.cell? ⟨w.heap.size + 1, 3, none⟩ = some (.slice bva blv bvc) ∧ v1.cell? ⟨w.heap.size + 1, 4, none⟩ = some (.slice bca blc bcc) ∧ v1.cell? ⟨w.heap.size + 1, 5, none⟩ = some (.int .u64 blaid) := by refine ⟨?_, ?_, ?_, ?_, ?_, ?_, ?_, ?_, ?_, ?_, ?_, ?_⟩ <;> (refine (hv1.cell ?_).trans ?_ <;> first | (first | (with_reducible assumption) | omega | (simp only [World.size_alloc, World.size_setCell, World.size_drew, World.heap_drewN] <;> omega) | (simp <;> omega)) | (first | (with_reducible assumption) | ((try simp (disch := first | omega | (simp only [World.size_alloc, World.size_setCell, World.size_drew, World.heap_drewN] <;> omega) | fail) only [World.cell?_alloc_past, World.cell?_alloc_at, World.frozen?_alloc_past, World.frozen?_alloc_at, World.frozen?_setCell, World.cell?_drew, World.frozen?_drew]) <;> first | (with_reducible assumption) | rfl)))
  have all_z : w.heap.size < v1.heap.size ∧ w.heap.size + 1 < v1.heap.size := by refine ⟨?_, ?_⟩ <;> (omega)
  clear c_a0 c_a1 c_a2 c_a3 c_a4 c_a5 c_b0 c_b1 c_b2 c_b3 c_b4 c_b5 z_a z_b
  obtain ⟨c_a0, c_a1, c_a2, c_a3, c_a4, c_a5, c_b0, c_b1, c_b2, c_b3, c_b4, c_b5⟩ := all_c
  try clear all_c
  obtain ⟨z_a, z_b⟩ := all_z
  try clear all_z
  have hV1 : Below w.heap.size w v1 := by (repeat (first | (with_reducible exact Below.refl _ _) | (with_reducible assumption) | (with_reducible exact Hid.out (by with_reducible assumption)) | (with_reducible refine Below.alloc ?_ ?_ _) | (with_reducible refine Below.setCell ?_ ?_ _) | (with_reducible refine below_drewN ?_ _) | (with_reducible refine Below.drew ?_) | (with_reducible refine below_via (by with_reducible assumption) ?_ ?_) | (first | (with_reducible assumption) | omega | (simp only [World.size_alloc, World.size_setCell, World.size_drew, World.heap_drewN] <;> omega) | (simp <;> omega))))
  go_wp2_with fail
  refine (G2.out _).mono ?_
  rintro e v2 ⟨rfl, hv2⟩
  have hz_v2 := hv2.size
  try simp only [World.size_alloc, World.size_setCell] at hz_v2
  have all_c : v2.cell? ⟨w.heap.size, 0, none⟩ = some (.int .i64 aseg) ∧ v2.cell? ⟨w.heap.size, 1, none⟩ = some (.slice awa alw awc) ∧ v2.cell? ⟨w.heap.size, 2, none⟩ = some (.slice aka alk akc) ∧ v2.cell? ⟨w.heap.size, 3, none⟩ = some (.slice ava alv avc) ∧ v2.cell? ⟨w.heap.size, 4, none⟩ = some (.slice aca alc acc) ∧ v2.cell? ⟨w.heap.size, 5, none⟩ = some (.int .u64 alaid) ∧ v2.cell? ⟨w.heap.size + 1, 0, none⟩ = some (.int .i64 bseg) ∧ v2.cell? ⟨w.heap.size + 1, 1, none⟩ = some (.slice bwa blw bwc) ∧ v2.cell? ⟨w.heap.size + 1, 2, none⟩ = some (.slice bka blk bkc) ∧ v2.cell? ⟨w.heap.size + 1, 3, none⟩ = some (.slice bva blv bvc) ∧ v2.cell? ⟨w.heap.size + 1, 4, none⟩ = some (.slice bca blc bcc) ∧ v2.cell? ⟨w.heap.size + 1, 5, none⟩ = some (.int .u64 blaid) := by refine ⟨?_, ?_, ?_, ?_, ?_, ?_, ?_, ?_, ?_, ?_, ?_, ?_⟩ <;> (refine (hv2.cell ?_).trans ?_ <;> first | (first | (with_reducible assumption) | omega | (simp only [World.size_alloc, World.size_setCell, World.size_drew, World.heap_drewN] <;> omega) | (simp <;> omega)) | (first | (with_reducible assumption) | ((try simp (disch := first | omega | (simp only [World.size_alloc, World.size_setCell, World.size_drew, World.heap_drewN] <;> omega) | fail) only [World.cell?_alloc_past, World.cell?_alloc_at, World.frozen?_alloc_past, World.frozen?_alloc_at, World.frozen?_setCell, World.cell?_drew, World.frozen?_drew]) <;> first | (with_reducible assumption) | rfl)))
  have all_z : w.heap.size < v2.heap.size ∧ w.heap.size + 1 < v2.heap.size := by refine ⟨?_, ?_⟩ <;> (omega)
  clear c_a0 c_a1 c_a2 c_a3 c_a4 c_a5 c_b0 c_b1 c_b2 c_b3 c_b4 c_b5 z_a z_b
  obtain ⟨c_a0, c_a1, c_a2, c_a3, c_a4, c_a5, c_b0, c_b1, c_b2, c_b3, c_b4, c_b5⟩ := all_c
  try clear all_c
  obtain ⟨z_a, z_b⟩ := all_z
  try clear all_z
  have hV2 : Below w.heap.size w v2 := by (repeat (first | (with_reducible exact Below.refl _ _) | (with_reducible assumption) | (with_reducible exact Hid.out (by with_reducible assumption)) | (with_reducible refine Below.alloc ?_ ?_ _) | (with_reducible refine Below.setCell ?_ ?_ _) | (with_reducible refine below_drewN ?_ _) | (with_reducible refine Below.drew ?_) | (with_reducible refine below_via (by with_reducible assumption) ?_ ?_) | (first | (with_reducible assumption) | omega | (simp only [World.size_alloc, World.size_setCell, World.size_drew, World.heap_drewN] <;> omega) | (simp <;> omega))))
  go_wp2_with fail
  refine (BA.out _ hV2).mono ?_
  rintro e w3 ⟨v, u, rfl, o1, o2, hb3⟩
  have hz_w3 := hb3.size
  try simp only [World.size_alloc, World.size_setCell] at hz_w3
  have all_c : w3.cell? ⟨w.heap.size, 0, none⟩ = some (.int .i64 aseg) ∧ w3.cell? ⟨w.heap.size, 1, none⟩ = some (.slice awa alw awc) ∧ w3.cell? ⟨w.heap.size, 2, none⟩ = some (.slice aka alk akc) ∧ w3.cell? ⟨w.heap.size, 3, none⟩ = some (.slice ava alv avc) ∧ w3.cell? ⟨w.heap.size, 4, none⟩ = some (.slice aca alc acc) ∧ w3.cell? ⟨w.heap.size, 5, none⟩ = some (.int .u64 alaid) ∧ w3.cell? ⟨w.heap.size + 1, 0, none⟩ = some (.int .i64 bseg) ∧ w3.cell? ⟨w.heap.size + 1, 1, none⟩ = some (.slice bwa blw bwc) ∧ w3.cell? ⟨w.heap.size + 1, 2, none⟩ = some (.slice bka blk bkc) ∧ w3.cell? ⟨w.heap.size + 1, 3, none⟩ = some (.slice bva blv bvc) ∧ w3.cell? ⟨w.heap.size + 1, 4, none⟩ = some (.slice bca blc bcc) ∧ w3.cell? ⟨w.heap.size + 1, 5, none⟩ = some (.int .u64 blaid) := by refine ⟨?_, ?_, ?_, ?_, ?_, ?_, ?_, ?_, ?_, ?_, ?_, ?_⟩ <;> (refine (hb3.cell ?_).trans ?_ <;> first | (first | (with_reducible assumption) | omega | (simp only [World.size_alloc, World.size_setCell, World.size_drew, World.heap_drewN] <;> omega) | (simp <;> omega)) | (first | (with_reducible assumption) | ((try simp (disch := first | omega | (simp only [World.size_alloc, World.size_setCell, World.size_drew, World.heap_drewN] <;> omega) | fail) only [World.cell?_alloc_past, World.cell?_alloc_at, World.frozen?_alloc_past, World.frozen?_alloc_at, World.frozen?_setCell, World.cell?_drew, World.frozen?_drew]) <;> first | (with_reducible assumption) | rfl)))
  have all_z : w.heap.size < w3.heap.size ∧ w.heap.size + 1 < w3.heap.size := by refine ⟨?_, ?_⟩ <;> (omega)
  clear c_a0 c_a1 c_a2 c_a3 c_a4 c_a5 c_b0 c_b1 c_b2 c_b3 c_b4 c_b5 z_a z_b
  obtain ⟨c_a0, c_a1, c_a2, c_a3, c_a4, c_a5, c_b0, c_b1, c_b2, c_b3, c_b4, c_b5⟩ := all_c
  try clear all_c
  obtain ⟨z_a, z_b⟩ := all_z
  try clear all_z
  have hB3 : Below w.heap.size w w3 := by (repeat (first | (with_reducible exact Below.refl _ _) | (with_reducible assumption) | (with_reducible exact Hid.out (by with_reducible assumption)) | (with_reducible refine Below.alloc ?_ ?_ _) | (with_reducible refine Below.setCell ?_ ?_ _) | (with_reducible refine below_drewN ?_ _) | (with_reducible refine Below.drew ?_) | (with_reducible refine below_via (by with_reducible assumption) ?_ ?_) | (first | (with_reducible assumption) | omega | (simp only [World.size_alloc, World.size_setCell, World.size_drew, World.heap_drewN] <;> omega) | (simp <;> omega))))
  obtain ⟨ma', mc', rfl, i1, -, -, -, -⟩ := row_of_owns o1
  obtain ⟨ca', ck', rfl, i2, -, -, -, -⟩ := row_of_owns o2
  have I1 := Lib.hid (fun W (hb : Below w3.heap.size w3 W) => i1.below hb)
  have I2 := Lib.hid (fun W (hb : Below w3.heap.size w3 W) => i2.below hb)
  clear o1 o2 i1 i2 hb3
  have hx : Below w3.heap.size w3 (w3.alloc (.cells #[.int .i64 Lc, .slice ma' cm.length mc', .slice ca' cc'.length ck'] 25)) := (Below.refl _ _).alloc (Nat.le_refl _) _
  go_wp2_with fail
  refine (BB.out _ (by (repeat (first | (with_reducible exact Below.refl _ _) | (with_reducible assumption) | (with_reducible exact Hid.out (by with_reducible assumption)) | (with_reducible refine Below.alloc ?_ ?_ _) | (with_reducible refine Below.setCell ?_ ?_ _) | (with_reducible refine below_drewN ?_ _) | (with_reducible refine Below.drew ?_) | (with_reducible refine below_via (by with_reducible assumption) ?_ ?_) | (first | (with_reducible assumption) | omega | (simp only [World.size_alloc, World.size_setCell, World.size_drew, World.heap_drewN] <;> omega) | (simp <;> omega)))))).mono ?_
  rintro e w4 ⟨v, u, rfl, o1, o2, hb4⟩
  have hz_w4 := hb4.size
  try simp only [World.size_alloc, World.size_setCell] at hz_w4
  have all_c : w4.cell? ⟨w.heap.size, 0, none⟩ = some (.int .i64 aseg) ∧ w4.cell? ⟨w.heap.size, 1, none⟩ = some (.slice awa alw awc) ∧ w4.cell? ⟨w.heap.size, 2, none⟩ = some (.slice aka alk akc) ∧ w4.cell? ⟨w.heap.size, 3, none⟩ = some (.slice ava alv avc) ∧ w4.cell? ⟨w.heap.size, 4, none⟩ = some (.slice aca alc acc) ∧ w4.cell? ⟨w.heap.size, 5, none⟩ = some (.int .u64 alaid) ∧ w4.cell? ⟨w.heap.size + 1, 0, none⟩ = some (.int .i64 bseg) ∧ w4.cell? ⟨w.heap.size + 1, 1, none⟩ = some (.slice bwa blw bwc) ∧ w4.cell? ⟨w.heap.size + 1, 2, none⟩ = some (.slice bka blk bkc) ∧ w4.cell? ⟨w.heap.size + 1, 3, none⟩ = some (.slice bva blv bvc) ∧ w4.cell? ⟨w.heap.size + 1, 4, none⟩ = some (.slice bca blc bcc) ∧ w4.cell? ⟨w.heap.size + 1, 5, none⟩ = some (.int .u64 blaid) ∧ w4.cell? ⟨w3.heap.size, 0, none⟩ = some (.int .i64 Lc) ∧ w4.cell? ⟨w3.heap.size, 1, none⟩ = some (.slice ma' cm.length mc') ∧ w4.cell? ⟨w3.heap.size, 2, none⟩ = some (.slice ca' cc'.length ck') := by refine ⟨?_, ?_, ?_, ?_, ?_, ?_, ?_, ?_, ?_, ?_, ?_, ?_, ?_, ?_, ?_⟩ <;> (refine (hb4.cell ?_).trans ?_ <;> first | (first | (with_reducible assumption) | omega | (simp only [World.size_alloc, World.size_setCell, World.size_drew, World.heap_drewN] <;> omega) | (simp <;> omega)) | (first | (with_reducible assumption) | ((try simp (disch := first | omega | (simp only [World.size_alloc, World.size_setCell, World.size_drew, World.heap_drewN] <;> omega) | fail) only [World.cell?_alloc_past, World.cell?_alloc_at, World.frozen?_alloc_past, World.frozen?_alloc_at, World.frozen?_setCell, World.cell?_drew, World.frozen?_drew]) <;> first | (with_reducible assumption) | rfl)))
  have all_z : w.heap.size < w4.heap.size ∧ w.heap.size + 1 < w4.heap.size ∧ w3.heap.size < w4.heap.size := by refine ⟨?_, ?_, ?_⟩ <;> (omega)
  clear c_a0 c_a1 c_a2 c_a3 c_a4 c_a5 c_b0 c_b1 c_b2 c_b3 c_b4 c_b5 z_a z_b
  obtain ⟨c_a0, c_a1, c_a2, c_a3, c_a4, c_a5, c_b0, c_b1, c_b2, c_b3, c_b4, c_b5, c_x0, c_x1, c_x2⟩ := all_c
  try clear all_c
  obtain ⟨z_a, z_b, z_x⟩ := all_z
  try clear all_z
  have h4 : Below w3.heap.size w3 w4 := below_via hb4 hx (by simp)
  obtain ⟨ma4, mc4, rfl, i1, -, -, -, -⟩ := row_of_owns o1
  obtain ⟨ca4, ck4, rfl, i2, -, -, -, -⟩ := row_of_owns o2
  have J1 := Lib.hid (fun W (hb : Below w4.heap.size w4 W) => i1.below hb)
  have J2 := Lib.hid (fun W (hb : Below w4.heap.size w4 W) => i2.below hb)
  clear o1 o2 i1 i2 hb4 hx
  have hz : Below w4.heap.size w4 (w4.alloc (.cells #[.int .i64 Ld, .slice ma4 dm.length mc4, .slice ca4 dc.length ck4] 25)) := (Below.refl _ _).alloc (Nat.le_refl _) _
  go_wp2_with fail
  refine (TU.out _ (by (repeat (first | (with_reducible exact Below.refl _ _) | (with_reducible assumption) | (with_reducible exact Hid.out (by with_reducible assumption)) | (with_reducible refine Below.alloc ?_ ?_ _) | (with_reducible refine Below.setCell ?_ ?_ _) | (with_reducible refine below_drewN ?_ _) | (with_reducible refine Below.drew ?_) | (with_reducible refine below_via (by with_reducible assumption) ?_ ?_) | (first | (with_reducible assumption) | omega | (simp only [World.size_alloc, World.size_setCell, World.size_drew, World.heap_drewN] <;> omega) | (simp <;> omega)))))).mono ?_
  rintro e w5 ⟨rfl, hb5⟩
  have hz_w5 := hb5.size
  try simp only [World.size_alloc, World.size_setCell] at hz_w5
  have all_c : w5.cell? ⟨w.heap.size + 1, 0, none⟩ = some (.int .i64 bseg) ∧ w5.cell? ⟨w.heap.size + 1, 1, none⟩ = some (.slice bwa blw bwc) ∧ w5.cell? ⟨w.heap.size + 1, 2, none⟩ = some (.slice bka blk bkc) ∧ w5.cell? ⟨w.heap.size + 1, 3, none⟩ = some (.slice bva blv bvc) ∧ w5.cell? ⟨w.heap.size + 1, 4, none⟩ = some (.slice bca blc bcc) ∧ w5.cell? ⟨w.heap.size + 1, 5, none⟩ = some (.int .u64 blaid) ∧ w5.cell? ⟨w3.heap.size, 0, none⟩ = some (.int .i64 Lc) ∧ w5.cell? ⟨w3.heap.size, 1, none⟩ = some (.slice ma' cm.length mc') ∧ w5.cell? ⟨w3.heap.size, 2, none⟩ = some (.slice ca' cc'.length ck') ∧ w5.cell? ⟨w4.heap.size, 0, none⟩ = some (.int .i64 Ld) ∧ w5.cell? ⟨w4.heap.size, 1, none⟩ = some (.slice ma4 dm.length mc4) ∧ w5.cell? ⟨w4.heap.size, 2, none⟩ = some (.slice ca4 dc.length ck4) := by refine ⟨?_, ?_, ?_, ?_, ?_, ?_, ?_, ?_, ?_, ?_, ?_, ?_⟩ <;> (refine (hb5.cell ?_).trans ?_ <;> first | (first | (with_reducible assumption) | omega | (simp only [World.size_alloc, World.size_setCell, World.size_drew, World.heap_drewN] <;> omega) | (simp <;> omega)) | (first | (with_reducible assumption) | ((try simp (disch := first | omega | (simp only [World.size_alloc, World.size_setCell, World.size_drew, World.heap_drewN] <;> omega) | fail) only [World.cell?_alloc_past, World.cell?_alloc_at, World.frozen?_alloc_past, World.frozen?_alloc_at, World.frozen?_setCell, World.cell?_drew, World.frozen?_drew]) <;> first | (with_reducible assumption) | rfl)))
  have all_z : w.heap.size + 1 < w5.heap.size ∧ w3.heap.size < w5.heap.size ∧ w4.heap.size < w5.heap.size := by refine ⟨?_, ?_, ?_⟩ <;> (omega)
  clear c_b0 c_b1 c_b2 c_b3 c_b4 c_b5 c_x0 c_x1 c_x2 z_b z_x
  obtain ⟨c_b0, c_b1, c_b2, c_b3, c_b4, c_b5, c_x0, c_x1, c_x2, c_z0, c_z1, c_z2⟩ := all_c
  try clear all_c
  obtain ⟨z_b, z_x, z_z⟩ := all_z
  try clear all_z
  have h45 : Below w4.heap.size w4 w5 := below_via hb5 hz (by simp)
  have h35 : Below w3.heap.size w3 w5 := below_via h45 h4 (by omega)
  clear hb5 hz h4
  go_wp2_with fail
  refine (WN.out ma' ca' mc' ck' _ (by (repeat (first | (with_reducible exact Below.refl _ _) | (with_reducible assumption) | (with_reducible exact Hid.out (by with_reducible assumption)) | (with_reducible refine Below.alloc ?_ ?_ _) | (with_reducible refine Below.setCell ?_ ?_ _) | (with_reducible refine below_drewN ?_ _) | (with_reducible refine Below.drew ?_) | (with_reducible refine below_via (by with_reducible assumption) ?_ ?_) | (first | (with_reducible assumption) | omega | (simp only [World.size_alloc, World.size_setCell, World.size_drew, World.heap_drewN] <;> omega) | (simp <;> omega))))) (I1.out _ h35) (I2.out _ h35)).mono ?_
  rintro e w6 ⟨v, u, rfl, o1, o2, hb6⟩
  have hz_w6 := hb6.size
  try simp only [World.size_alloc, World.size_setCell] at hz_w6
  have all_c : w6.cell? ⟨w.heap.size + 1, 0, none⟩ = some (.int .i64 bseg) ∧ w6.cell? ⟨w.heap.size + 1, 1, none⟩ = some (.slice bwa blw bwc) ∧ w6.cell? ⟨w.heap.size + 1, 2, none⟩ = some (.slice bka blk bkc) ∧ w6.cell? ⟨w.heap.size + 1, 3, none⟩ = some (.slice bva blv bvc) ∧ w6.cell? ⟨w.heap.size + 1, 4, none⟩ = some (.slice bca blc bcc) ∧ w6.cell? ⟨w.heap.size + 1, 5, none⟩ = some (.int .u64 blaid) ∧ w6.cell? ⟨w3.heap.size, 0, none⟩ = some (.int .i64 Lc) ∧ w6.cell? ⟨w3.heap.size, 1, none⟩ = some (.slice ma' cm.length mc') ∧ w6.cell? ⟨w3.heap.size, 2, none⟩ = some (.slice ca' cc'.length ck') ∧ w6.cell? ⟨w4.heap.size, 0, none⟩ = some (.int .i64 Ld) ∧ w6.cell? ⟨w4.heap.size, 1, none⟩ = some (.slice ma4 dm.length mc4) ∧ w6.cell? ⟨w4.heap.size, 2, none⟩ = some (.slice ca4 dc.length ck4) := by refine ⟨?_, ?_, ?_, ?_, ?_, ?_, ?_, ?_, ?_, ?_, ?_, ?_⟩ <;> (refine (hb6.cell ?_).trans ?_ <;> first | (first | (with_reducible assumption) | omega | (simp only [World.size_alloc, World.size_setCell, World.size_drew, World.heap_drewN] <;> omega) | (simp <;> omega)) | (first | (with_reducible assumption) | ((try simp (disch := first | omega | (simp only [World.size_alloc, World.size_setCell, World.size_drew, World.heap_drewN] <;> omega) | fail) only [World.cell?_alloc_past, World.cell?_alloc_at, World.frozen?_alloc_past, World.frozen?_alloc_at, World.frozen?_setCell, World.cell?_drew, World.frozen?_drew]) <;> first | (with_reducible assumption) | rfl)))
  have all_z : w.heap.size + 1 < w6.heap.size ∧ w3.heap.size < w6.heap.size ∧ w4.heap.size < w6.heap.size := by refine ⟨?_, ?_, ?_⟩ <;> (omega)
  clear c_b0 c_b1 c_b2 c_b3 c_b4 c_b5 c_x0 c_x1 c_x2 c_z0 c_z1 c_z2 z_b z_x z_z
  obtain ⟨c_b0, c_b1, c_b2, c_b3, c_b4, c_b5, c_x0, c_x1, c_x2, c_z0, c_z1, c_z2⟩ := all_c
  try clear all_c
  obtain ⟨z_b, z_x, z_z⟩ := all_z
  try clear all_z
  have h46 : Below w4.heap.size w4 w6 := below_via hb6 h45 (by omega)
  have h36 : Below w3.heap.size w3 w6 := below_via hb6 h35 (by omega)
  obtain ⟨ma6, mc6, rfl, i1, -, -, -, -⟩ := row_of_owns o1
  obtain ⟨ca6, ck6, rfl, i2, -, -, -, -⟩ := row_of_owns o2
  have M1 := Lib.hid (fun W (hb : Below w6.heap.size w6 W) => i1.below hb)
  have M2 := Lib.hid (fun W (hb : Below w6.heap.size w6 W) => i2.below hb)
  clear o1 o2 i1 i2 hb6 h45 h35
  have hn : Below w6.heap.size w6 (w6.alloc (.cells #[.int .i64 Lc, .slice ma6 cm.length mc6, .slice ca6 cc'.length ck6] 25)) := (Below.refl _ _).alloc (Nat.le_refl _) _
  have hn3 : Below w3.heap.size w3 (w6.alloc (.cells #[.int .i64 Lc, .slice ma6 cm.length mc6, .slice ca6 cc'.length ck6] 25)) := h36.alloc (by omega) _
  have hn4 : Below w4.heap.size w4 (w6.alloc (.cells #[.int .i64 Lc, .slice ma6 cm.length mc6, .slice ca6 cc'.length ck6] 25)) := h46.alloc (by omega) _
  go_wp2_with fail
  refine (WD.out ma' ca' mc' ck' _ (by (repeat (first | (with_reducible exact Below.refl _ _) | (with_reducible assumption) | (with_reducible exact Hid.out (by with_reducible assumption)) | (with_reducible refine Below.alloc ?_ ?_ _) | (with_reducible refine Below.setCell ?_ ?_ _) | (with_reducible refine below_drewN ?_ _) | (with_reducible refine Below.drew ?_) | (with_reducible refine below_via (by with_reducible assumption) ?_ ?_) | (first | (with_reducible assumption) | omega | (simp only [World.size_alloc, World.size_setCell, World.size_drew, World.heap_drewN] <;> omega) | (simp <;> omega))))) (I1.out _ hn3) (I2.out _ hn3)).mono ?_
  rintro e w7 ⟨v, u, rfl, o1, o2, hb7⟩
  have hz_w7 := hb7.size
  try simp only [World.size_alloc, World.size_setCell] at hz_w7
  have all_c : w7.cell? ⟨w3.heap.size, 0, none⟩ = some (.int .i64 Lc) ∧ w7.cell? ⟨w3.heap.size, 1, none⟩ = some (.slice ma' cm.length mc') ∧ w7.cell? ⟨w3.heap.size, 2, none⟩ = some (.slice ca' cc'.length ck') ∧ w7.cell? ⟨w4.heap.size, 0, none⟩ = some (.int .i64 Ld) ∧ w7.cell? ⟨w4.heap.size, 1, none⟩ = some (.slice ma4 dm.length mc4) ∧ w7.cell? ⟨w4.heap.size, 2, none⟩ = some (.slice ca4 dc.length ck4) ∧ w7.cell? ⟨w6.heap.size, 0, none⟩ = some (.int .i64 Lc) ∧ w7.cell? ⟨w6.heap.size, 1, none⟩ = some (.slice ma6 cm.length mc6) ∧ w7.cell? ⟨w6.heap.size, 2, none⟩ = some (.slice ca6 cc'.length ck6) := by refine ⟨?_, ?_, ?_, ?_, ?_, ?_, ?_, ?_, ?_⟩ <;> (refine (hb7.cell ?_).trans ?_ <;> first | (first | (with_reducible assumption) | omega | (simp only [World.size_alloc, World.size_setCell, World.size_drew, World.heap_drewN] <;> omega) | (simp <;> omega)) | (first | (with_reducible assumption) | ((try simp (disch := first | omega | (simp only [World.size_alloc, World.size_setCell, World.size_drew, World.heap_drewN] <;> omega) | fail) only [World.cell?_alloc_past, World.cell?_alloc_at, World.frozen?_alloc_past, World.frozen?_alloc_at, World.frozen?_setCell, World.cell?_drew, World.frozen?_drew]) <;> first | (with_reducible assumption) | rfl)))
  have all_z : w3.heap.size < w7.heap.size ∧ w4.heap.size < w7.heap.size ∧ w6.heap.size < w7.heap.size := by refine ⟨?_, ?_, ?_⟩ <;> (omega)
  clear c_x0 c_x1 c_x2 c_z0 c_z1 c_z2 z_x z_z
  obtain ⟨c_x0, c_x1, c_x2, c_z0, c_z1, c_z2, c_n0, c_n1, c_n2⟩ := all_c
  try clear all_c
  obtain ⟨z_x, z_z, z_n⟩ := all_z
  try clear all_z
  have h67 : Below w6.heap.size w6 w7 := below_via hb7 hn (by simp)
  have h47 : Below w4.heap.size w4 w7 := below_via hb7 hn4 (by simp <;> omega)
  have h37 : Below w3.heap.size w3 w7 := below_via hb7 hn3 (by simp <;> omega)
  obtain ⟨ma7, mc7, rfl, i1, -, -, -, -⟩ := row_of_owns o1
  obtain ⟨ca7, ck7, rfl, i2, -, -, -, -⟩ := row_of_owns o2
  have N1 := Lib.hid (fun W (hb : Below w7.heap.size w7 W) => i1.below hb)
  have N2 := Lib.hid (fun W (hb : Below w7.heap.size w7 W) => i2.below hb)
  clear o1 o2 i1 i2 hb7 hn hn3 hn4 h46 h36
  have hy : Below w7.heap.size w7 (w7.alloc (.cells #[.int .i64 Ld, .slice ma7 dm.length mc7, .slice ca7 dc.length ck7] 25)) := (Below.refl _ _).alloc (Nat.le_refl _) _
  have hy6 := below_via hy h67 (by omega)
  have hy3 := below_via hy h37 (by omega)
  have hy4 := below_via hy h47 (by omega)
  go_wp2_with fail
  refine (SC.out ma6 ca6 ma' ca' mc6 ck6 mc' ck' _ (M1.out _ hy6) (M2.out _ hy6) (I1.out _ hy3) (I2.out _ hy3)).mono ?_
  rintro e w8 ⟨rfl, hb8⟩
  have hz_w8 := hb8.size
  try simp only [World.size_alloc, World.size_setCell] at hz_w8
  have all_c : w8.cell? ⟨w4.heap.size, 0, none⟩ = some (.int .i64 Ld) ∧ w8.cell? ⟨w4.heap.size, 1, none⟩ = some (.slice ma4 dm.length mc4) ∧ w8.cell? ⟨w4.heap.size, 2, none⟩ = some (.slice ca4 dc.length ck4) ∧ w8.cell? ⟨w7.heap.size, 0, none⟩ = some (.int .i64 Ld) ∧ w8.cell? ⟨w7.heap.size, 1, none⟩ = some (.slice ma7 dm.length mc7) ∧ w8.cell? ⟨w7.heap.size, 2, none⟩ = some (.slice ca7 dc.length ck7) := by refine ⟨?_, ?_, ?_, ?_, ?_, ?_⟩ <;> (refine (hb8.cell ?_).trans ?_ <;> first | (first | (with_reducible assumption) | omega | (simp only [World.size_alloc, World.size_setCell, World.size_drew, World.heap_drewN] <;> omega) | (simp <;> omega)) | (first | (with_reducible assumption) | ((try simp (disch := first | omega | (simp only [World.size_alloc, World.size_setCell, World.size_drew, World.heap_drewN] <;> omega) | fail) only [World.cell?_alloc_past, World.cell?_alloc_at, World.frozen?_alloc_past, World.frozen?_alloc_at, World.frozen?_setCell, World.cell?_drew, World.frozen?_drew]) <;> first | (with_reducible assumption) | rfl)))
  have all_z : w4.heap.size < w8.heap.size ∧ w7.heap.size < w8.heap.size := by refine ⟨?_, ?_⟩ <;> (omega)
  clear c_z0 c_z1 c_z2 z_z
  obtain ⟨c_z0, c_z1, c_z2, c_y0, c_y1, c_y2⟩ := all_c
  try clear all_c
  obtain ⟨z_z, z_y⟩ := all_z
  try clear all_z
  have h8 : Below w7.heap.size w7 w8 := below_via hb8 hy (by simp)
  have h84 : Below w4.heap.size w4 w8 := below_via h8 h47 (by omega)
  have h83 : Below w3.heap.size w3 w8 := below_via h8 h37 (by omega)
  clear hb8 hy hy6 hy3 hy4
  go_wp2_with fail
  refine (SD.out ma7 ca7 ma4 ca4 mc7 ck7 mc4 ck4 _ (N1.out _ h8) (N2.out _ h8) (J1.out _ h84) (J2.out _ h84)).mono ?_
  rintro e w9 ⟨rfl, hb9⟩
  have hz_w9 := hb9.size
  try simp only [World.size_alloc, World.size_setCell] at hz_w9
  go_wp2
  go_ret
  exact ⟨rfl, below_via hb9 (below_via h83 hB3 (by omega)) (by omega)⟩

set_option maxRecDepth 100000 in
set_option maxHeartbeats 4000000 in
theorem MA_inba (aseg : Int) (awa aka ava aca : Option Addr) (awc akc avc acc alw alk alv alc : Nat) (alaid : Int) (bseg : Int) (bwa bka bva bca : Option Addr) (bwc bkc bvc bcc blw blk blv blc : Nat) (blaid : Int) (lf rt : Int) (w : World) (Lc Ld : Int) (F T : Nat) (cm cc' dm dc : List Int) (G1 : Hid (∀ W, Calls Try.prog 10 #[.agg #[.int .i64 aseg, .slice awa alw awc, .slice aka alk akc, .slice ava alv avc, .slice aca alc acc, .int .u64 alaid], .int .i64 600] W (AnsB W (.bool false)))) (G2 : Hid (∀ W, Calls Try.prog 10 #[.agg #[.int .i64 bseg, .slice bwa blw bwc, .slice bka blk bkc, .slice bva blv bvc, .slice bca blc bcc, .int .u64 blaid], .int .i64 600] W (AnsB W (.bool false))))
    (hlf : 0 ≤ lf ∧ lf < 256) (hrt : 0 ≤ rt ∧ rt < 256) (hF : F ≤ 600) (hT : T ≤ 600) (hA : (F : Int) ≤ lf) (hB : (T : Int) + rt < (blc : Int))
    (BA : Hid (∀ W, Below w.heap.size w W → Calls Try.prog 23 #[.agg #[.int .i64 aseg, .slice awa alw awc, .slice aka alk akc, .slice ava alv avc, .slice aca alc acc, .int .u64 alaid]] W (FreshIx2 W Lc cm cc' (.int .i64 0))))
    (BB : Hid (∀ W, Below w.heap.size w W → Calls Try.prog 23 #[.agg #[.int .i64 bseg, .slice bwa blw bwc, .slice bka blk bkc, .slice bva blv bvc, .slice bca blc bcc, .int .u64 blaid]] W (FreshIx2 W Ld dm dc (.int .i64 0))))
    (TU : Hid (∀ W, Below w.heap.size w W → Calls Try.prog 13 #[.agg #[.int .i64 aseg, .slice awa alw awc, .slice aka alk akc, .slice ava alv avc, .slice aca alc acc, .int .u64 alaid], .agg #[.int .i64 bseg, .slice bwa blw bwc, .slice bka blk bkc, .slice bva blv bvc, .slice bca blc bcc, .int .u64 blaid]] W (AnsB W (.tuple #[.int .i64 F, .int .i64 T, .int .i64 0]))))
    (WN : Hid (∀ xa xb xc xd W, Below w.heap.size w W → IsRow .i64 W xa cm → IsRow .i64 W xb cc' → Calls Try.prog 15 #[ixV Lc xa cm.length xc xb cc'.length xd, .agg #[.int .i64 bseg, .slice bwa blw bwc, .slice bka blk bkc, .slice bva blv bvc, .slice bca blc bcc, .int .u64 blaid], .int .i64 F, .int .i64 F] W (FreshIx2 W Lc cm cc' (.int .i64 0))))
    (WD : Hid (∀ xa xb xc xd W, Below w.heap.size w W → IsRow .i64 W xa cm → IsRow .i64 W xb cc' → Calls Try.prog 15 #[ixV Lc xa cm.length xc xb cc'.length xd, .agg #[.int .i64 bseg, .slice bwa blw bwc, .slice bka blk bkc, .slice bva blv bvc, .slice bca blc bcc, .int .u64 blaid], .int .i64 0, .int .i64 ((T : Int) + rt)] W (FreshIx2 W Ld dm dc (.int .i64 0))))
    (SC : Hid (∀ xa xb ya yb xc xd yc yd W, IsRow .i64 W xa cm → IsRow .i64 W xb cc' → IsRow .i64 W ya cm → IsRow .i64 W yb cc' → Calls Try.prog 24 #[ixV Lc xa cm.length xc xb cc'.length xd, ixV Lc ya cm.length yc yb cc'.length yd] W (AnsB W (.bool true))))
    (SD : Hid (∀ xa xb ya yb xc xd yc yd W, IsRow .i64 W xa dm → IsRow .i64 W xb dc → IsRow .i64 W ya dm → IsRow .i64 W yb dc → Calls Try.prog 24 #[ixV Ld xa dm.length xc xb dc.length xd, ixV Ld ya dm.length yc yb dc.length yd] W (AnsB W (.bool true)))) :
    Calls Try.prog 5 #[.agg #[.int .i64 aseg, .slice awa alw awc, .slice aka alk akc, .slice ava alv avc, .slice aca alc acc, .int .u64 alaid], .agg #[.int .i64 bseg, .slice bwa blw bwc, .slice bka blk bkc, .slice bva blv bvc, .slice bca blc bcc, .int .u64 blaid], .int .u8 lf, .int .u8 rt] w (AnsB w (.bool true)) := by
  have AL := Lib.hid alive20_ok
  have k1 : IntKind.i64.wrap lf = lf := IntWalk.i64_in _ (by omega)
  have k2 : IntKind.i64.wrap rt = rt := IntWalk.i64_in _ (by omega)
  have k3 : IntKind.i64.wrap ((F : Int) - lf) = (F : Int) - lf := IntWalk.i64_in _ (by omega)
  have k4 : IntKind.i64.wrap ((T : Int) + rt) = (T : Int) + rt := IntWalk.i64_in _ (by omega)
  clear hlf hrt hF hT
  go_enter Try.func5, Try.ntmps5
  go_wp2_with fail
  refine (AL.out _).mono ?_
  rintro e w1 ⟨rfl, hb1⟩
  have hz_w1 := hb1.size
  try simp only [World.size_alloc, World.size_setCell] at hz_w1
  have all_c : w1.cell? ⟨w.heap.size, 0, none⟩ = some (.int .i64 aseg) ∧ w1.cell? ⟨w.heap.size, 1, none⟩ = some (.slice awa alw awc) ∧ w1.cell? ⟨w.heap.size, 2, none⟩ = some (.slice aka alk akc) ∧ w1.cell? ⟨w.heap.size, 3, none⟩ = some (.slice ava alv avc) ∧ w1.cell? ⟨w.heap.size, 4, none⟩ = some (.slice aca alc acc) ∧ w1.cell? ⟨w.heap.size, 5, none⟩ = some (.int .u64 alaid) ∧ w1.cell? ⟨w.heap.size + 1, 0, none⟩ = some (.int .i64 bseg) ∧ w1.cell? ⟨w.heap.size + 1, 1, none⟩ = some (.slice bwa blw bwc) ∧ w1.cell? ⟨w.heap.size + 1, 2, none⟩ = some (.slice bka blk bkc) ∧ w1.cell? ⟨w.heap.size + 1, 3, none⟩ = some (.slice bva blv bvc) ∧ w1.cell? ⟨w.heap.size + 1, 4, none⟩ = some (.slice bca blc bcc) ∧ w1.cell? ⟨w.heap.size + 1, 5, none⟩ = some (.int .u64 blaid) := by refine ⟨?_, ?_, ?_, ?_, ?_, ?_, ?_, ?_, ?_, ?_, ?_, ?_⟩ <;> (refine (hb1.cell ?_).trans ?_ <;> first | (first | (with_reducible assumption) | omega | (simp only [World.size_alloc, World.size_setCell, World.size_drew, World.heap_drewN] <;> omega) | (simp <;> omega)) | (first | (with_reducible assumption) | ((try simp (disch := first | omega | (simp only [World.size_alloc, World.size_setCell, World.size_drew, World.heap_drewN] <;> omega) | fail) only [World.cell?_alloc_past, World.cell?_alloc_at, World.frozen?_alloc_past, World.frozen?_alloc_at, World.frozen?_setCell, World.cell?_drew, World.frozen?_drew]) <;> first | (with_reducible assumption) | rfl)))
  have all_z : w.heap.size < w1.heap.size ∧ w.heap.size + 1 < w1.heap.size := by refine ⟨?_, ?_⟩ <;> (omega)
  obtain ⟨c_a0, c_a1, c_a2, c_a3, c_a4, c_a5, c_b0, c_b1, c_b2, c_b3, c_b4, c_b5⟩ := all_c
  try clear all_c
  obtain ⟨z_a, z_b⟩ := all_z
  try clear all_z
  have hB1 : Below w.heap.size w w1 := by (repeat (first | (with_reducible exact Below.refl _ _) | (with_reducible assumption) | (with_reducible exact Hid.out (by with_reducible assumption)) | (with_reducible refine Below.alloc ?_ ?_ _) | (with_reducible refine Below.setCell ?_ ?_ _) | (with_reducible refine below_drewN ?_ _) | (with_reducible refine Below.drew ?_) | (with_reducible refine below_via (by with_reducible assumption) ?_ ?_) | (first | (with_reducible assumption) | omega | (simp only [World.size_alloc, World.size_setCell, World.size_drew, World.heap_drewN] <;> omega) | (simp <;> omega))))
  go_wp2_with fail
  refine (G1.out _).mono ?_
  rintro e v1 ⟨rfl, hv1⟩
  have hz_v1 := hv1.size
  try simp only [World.size_alloc, World.size_setCell] at hz_v1
  have all_c : v1.cell? ⟨w.heap.size, 0, none⟩ = some (.int .i64 aseg) ∧ v1.cell? ⟨w.heap.size, 1, none⟩ = some (.slice awa alw awc) ∧ v1.cell? ⟨w.heap.size, 2, none⟩ = some (.slice aka alk akc) ∧ v1.cell? ⟨w.heap.size, 3, none⟩ = some (.slice ava alv avc) ∧ v1.cell? ⟨w.heap.size, 4, none⟩ = some (.slice aca alc acc) ∧ v1.cell? ⟨w.heap.size, 5, none⟩ = some (.int .u64 alaid) ∧ v1.cell? ⟨w.heap.size + 1, 0, none⟩ = some (.int .i64 bseg) ∧ v1.cell? ⟨w.heap.size + 1, 1, none⟩ = some (.slice bwa blw bwc) ∧ v1.cell? ⟨w.heap.size + 1, 2, none⟩ = some (.slice bka blk bkc) ∧ v1.cell? ⟨w.heap.size + 1, 3, none⟩ = some (.slice bva blv bvc) ∧ v1.cell? ⟨w.heap.size + 1, 4, none⟩ = some (.slice bca blc bcc) ∧ v1.cell? ⟨w.heap.size + 1, 5, none⟩ = some (.int .u64 blaid) := by refine ⟨?_, ?_, ?_, ?_, ?_, ?_, ?_, ?_, ?_, ?_, ?_, ?_⟩ <;> (refine (hv1.cell ?_).trans ?_ <;> first | (first | (with_reducible assumption) | omega | (simp only [World.size_alloc, World.size_setCell, World.size_drew, World.heap_drewN] <;> omega) | (simp <;> omega)) | (first | (with_reducible assumption) | ((try simp (disch := first | omega | (simp only [World.size_alloc, World.size_setCell, World.size_drew, World.heap_drewN] <;> omega) | fail) only [World.cell?_alloc_past, World.cell?_alloc_at, World.frozen?_alloc_past, World.frozen?_alloc_at, World.frozen?_setCell, World.cell?_drew, World.frozen?_drew]) <;> first | (with_reducible assumption) | rfl)))
  have all_z : w.heap.size < v1.heap.size ∧ w.heap.size + 1 < v1.heap.size := by refine ⟨?_, ?_⟩ <;> (omega)
  clear c_a0 c_a1 c_a2 c_a3 c_a4 c_a5 c_b0 c_b1 c_b2 c_b3 c_b4 c_b5 z_a z_b
  obtain ⟨c_a0, c_a1, c_a2, c_a3, c_a4, c_a5, c_b0, c_b1, c_b2, c_b3, c_b4, c_b5⟩ := all_c
  try clear all_c
  obtain ⟨z_a, z_b⟩ := all_z
  try clear all_z
  have hV1 : Below w.heap.size w v1 := by (repeat (first | (with_reducible exact Below.refl _ _) | (with_reducible assumption) | (with_reducible exact Hid.out (by with_reducible assumption)) | (with_reducible refine Below.alloc ?_ ?_ _) | (with_reducible refine Below.setCell ?_ ?_ _) | (with_reducible refine below_drewN ?_ _) | (with_reducible refine Below.drew ?_) | (with_reducible refine below_via (by with_reducible assumption) ?_ ?_) | (first | (with_reducible assumption) | omega | (simp only [World.size_alloc, World.size_setCell, World.size_drew, World.heap_drewN] <;> omega) | (simp <;> omega))))
  go_wp2_with fail
  refine (G2.out _).mono ?_
  rintro e v2 ⟨rfl, hv2⟩
  have hz_v2 := hv2.size
  try simp only [World.size_alloc, World.size_setCell] at hz_v2
  have all_c : v2.cell? ⟨w.heap.size, 0, none⟩ = some (.int .i64 aseg) ∧ v2.cell? ⟨w.heap.size, 1, none⟩ = some (.slice awa alw awc) ∧ v2.cell? ⟨w.heap.size, 2, none⟩ = some (.slice aka alk akc) ∧ v2.cell? ⟨w.heap.size, 3, none⟩ = some (.slice ava alv avc) ∧ v2.cell? ⟨w.heap.size, 4, none⟩ = some (.slice aca alc acc) ∧ v2.cell? ⟨w.heap.size, 5, none⟩ = some (.int .u64 alaid) ∧ v2.cell? ⟨w.heap.size + 1, 0, none⟩ = some (.int .i64 bseg) ∧ v2.cell? ⟨w.heap.size + 1, 1, none⟩ = some (.slice bwa blw bwc) ∧ v2.cell? ⟨w.heap.size + 1, 2, none⟩ = some (.slice bka blk bkc) ∧ v2.cell? ⟨w.heap.size + 1, 3, none⟩ = some (.slice bva blv bvc) ∧ v2.cell? ⟨w.heap.size + 1, 4, none⟩ = some (.slice bca blc bcc) ∧ v2.cell? ⟨w.heap.size + 1, 5, none⟩ = some (.int .u64 blaid) := by refine ⟨?_, ?_, ?_, ?_, ?_, ?_, ?_, ?_, ?_, ?_, ?_, ?_⟩ <;> (refine (hv2.cell ?_).trans ?_ <;> first | (first | (with_reducible assumption) | omega | (simp only [World.size_alloc, World.size_setCell, World.size_drew, World.heap_drewN] <;> omega) | (simp <;> omega)) | (first | (with_reducible assumption) | ((try simp (disch := first | omega | (simp only [World.size_alloc, World.size_setCell, World.size_drew, World.heap_drewN] <;> omega) | fail) only [World.cell?_alloc_past, World.cell?_alloc_at, World.frozen?_alloc_past, World.frozen?_alloc_at, World.frozen?_setCell, World.cell?_drew, World.frozen?_drew]) <;> first | (with_reducible assumption) | rfl)))
  have all_z : w.heap.size < v2.heap.size ∧ w.heap.size + 1 < v2.heap.size := by refine ⟨?_, ?_⟩ <;> (omega)
  clear c_a0 c_a1 c_a2 c_a3 c_a4 c_a5 c_b0 c_b1 c_b2 c_b3 c_b4 c_b5 z_a z_b
  obtain ⟨c_a0, c_a1, c_a2, c_a3, c_a4, c_a5, c_b0, c_b1, c_b2, c_b3, c_b4, c_b5⟩ := all_c
  try clear all_c
  obtain ⟨z_a, z_b⟩ := all_z
  try clear all_z
  have hV2 : Below w.heap.size w v2 := by (repeat (first | (with_reducible exact Below.refl _ _) | (with_reducible assumption) | (with_reducible exact Hid.out (by with_reducible assumption)) | (with_reducible refine Below.alloc ?_ ?_ _) | (with_reducible refine Below.setCell ?_ ?_ _) | (with_reducible refine below_drewN ?_ _) | (with_reducible refine Below.drew ?_) | (with_reducible refine below_via (by with_reducible assumption) ?_ ?_) | (first | (with_reducible assumption) | omega | (simp only [World.size_alloc, World.size_setCell, World.size_drew, World.heap_drewN] <;> omega) | (simp <;> omega))))
  go_wp2_with fail
  refine (BA.out _ hV2).mono ?_
  rintro e w3 ⟨v, u, rfl, o1, o2, hb3⟩
  have hz_w3 := hb3.size
  try simp only [World.size_alloc, World.size_setCell] at hz_w3
  have all_c : w3.cell? ⟨w.heap.size, 0, none⟩ = some (.int .i64 aseg) ∧ w3.cell? ⟨w.heap.size, 1, none⟩ = some (.slice awa alw awc) ∧ w3.cell? ⟨w.heap.size, 2, none⟩ = some (.slice aka alk akc) ∧ w3.cell? ⟨w.heap.size, 3, none⟩ = some (.slice ava alv avc) ∧ w3.cell? ⟨w.heap.size, 4, none⟩ = some (.slice aca alc acc) ∧ w3.cell? ⟨w.heap.size, 5, none⟩ = some (.int .u64 alaid) ∧ w3.cell? ⟨w.heap.size + 1, 0, none⟩ = some (.int .i64 bseg) ∧ w3.cell? ⟨w.heap.size + 1, 1, none⟩ = some (.slice bwa blw bwc) ∧ w3.cell? ⟨w.heap.size + 1, 2, none⟩ = some (.slice bka blk bkc) ∧ w3.cell? ⟨w.heap.size + 1, 3, none⟩ = some (.slice bva blv bvc) ∧ w3.cell? ⟨w.heap.size + 1, 4, none⟩ = some (.slice bca blc bcc) ∧ w3.cell? ⟨w.heap.size + 1, 5, none⟩ = some (.int .u64 blaid) := by refine ⟨?_, ?_, ?_, ?_, ?_, ?_, ?_, ?_, ?_, ?_, ?_, ?_⟩ <;> (refine (hb3.cell ?_).trans ?_ <;> first | (first | (with_reducible assumption) | omega | (simp only [World.size_alloc, World.size_setCell, World.size_drew, World.heap_drewN] <;> omega) | (simp <;> omega)) | (first | (with_reducible assumption) | ((try simp (disch := first | omega | (simp only [World.size_alloc, World.size_setCell, World.size_drew, World.heap_drewN] <;> omega) | fail) only [World.cell?_alloc_past, World.cell?_alloc_at, World.frozen?_alloc_past, World.frozen?_alloc_at, World.frozen?_setCell, World.cell?_drew, World.frozen?_drew]) <;> first | (with_reducible assumption) | rfl)))
  have all_z : w.heap.size < w3.heap.size ∧ w.heap.size + 1 < w3.heap.size := by refine ⟨?_, ?_⟩ <;> (omega)
  clear c_a0 c_a1 c_a2 c_a3 c_a4 c_a5 c_b0 c_b1 c_b2 c_b3 c_b4 c_b5 z_a z_b
  obtain ⟨c_a0, c_a1, c_a2, c_a3, c_a4, c_a5, c_b0, c_b1, c_b2, c_b3, c_b4, c_b5⟩ := all_c
  try clear all_c
  obtain ⟨z_a, z_b⟩ := all_z
  try clear all_z
  have hB3 : Below w.heap.size w w3 := by (repeat (first | (with_reducible exact Below.refl _ _) | (with_reducible assumption) | (with_reducible exact Hid.out (by with_reducible assumption)) | (with_reducible refine Below.alloc ?_ ?_ _) | (with_reducible refine Below.setCell ?_ ?_ _) | (with_reducible refine below_drewN ?_ _) | (with_reducible refine Below.drew ?_) | (with_reducible refine below_via (by with_reducible assumption) ?_ ?_) | (first | (with_reducible assumption) | omega | (simp only [World.size_alloc, World.size_setCell, World.size_drew, World.heap_drewN] <;> omega) | (simp <;> omega))))
  obtain ⟨ma', mc', rfl, i1, -, -, -, -⟩ := row_of_owns o1
  obtain ⟨ca', ck', rfl, i2, -, -, -, -⟩ := row_of_owns o2
  have I1 := Lib.hid (fun W (hb : Below w3.heap.size w3 W) => i1.below hb)
  have I2 := Lib.hid (fun W (hb : Below w3.heap.size w3 W) => i2.below hb)
  clear o1 o2 i1 i2 hb3
  have hx : Below w3.heap.size w3 (w3.alloc (.cells #[.int .i64 Lc, .slice ma' cm.length mc', .slice ca' cc'.length ck'] 25)) := (Below.refl _ _).alloc (Nat.le_refl _) _
  go_wp2_with fail
  refine (BB.out _ (by (repeat (first | (with_reducible exact Below.refl _ _) | (with_reducible assumption) | (with_reducible exact Hid.out (by with_reducible assumption)) | (with_reducible refine Below.alloc ?_ ?_ _) | (with_reducible refine Below.setCell ?_ ?_ _) | (with_reducible refine below_drewN ?_ _) | (with_reducible refine Below.drew ?_) | (with_reducible refine below_via (by with_reducible assumption) ?_ ?_) | (first | (with_reducible assumption) | omega | (simp only [World.size_alloc, World.size_setCell, World.size_drew, World.heap_drewN] <;> omega) | (simp <;> omega)))))).mono ?_
  rintro e w4 ⟨v, u, rfl, o1, o2, hb4⟩
  have hz_w4 := hb4.size
  try simp only [World.size_alloc, World.size_setCell] at hz_w4
  have all_c : w4.cell? ⟨w.heap.size, 0, none⟩ = some (.int .i64 aseg) ∧ w4.cell? ⟨w.heap.size, 1, none⟩ = some (.slice awa alw awc) ∧ w4.cell? ⟨w.heap.size, 2, none⟩ = some (.slice aka alk akc) ∧ w4.cell? ⟨w.heap.size, 3, none⟩ = some (.slice ava alv avc) ∧ w4.cell? ⟨w.heap.size, 4, none⟩ = some (.slice aca alc acc) ∧ w4.cell? ⟨w.heap.size, 5, none⟩ = some (.int .u64 alaid) ∧ w4.cell? ⟨w.heap.size + 1, 0, none⟩ = some (.int .i64 bseg) ∧ w4.cell? ⟨w.heap.size + 1, 1, none⟩ = some (.slice bwa blw bwc) ∧ w4.cell? ⟨w.heap.size + 1, 2, none⟩ = some (.slice bka blk bkc) ∧ w4.cell? ⟨w.heap.size + 1, 3, none⟩ = some (.slice bva blv bvc) ∧ w4.cell? ⟨w.heap.size + 1, 4, none⟩ = some (.slice bca blc bcc) ∧ w4.cell? ⟨w.heap.size + 1, 5, none⟩ = some (.int .u64 blaid) ∧ w4.cell? ⟨w3.heap.size, 0, none⟩ = some (.int .i64 Lc) ∧ w4.cell? ⟨w3.heap.size, 1, none⟩ = some (.slice ma' cm.length mc') ∧ w4.cell? ⟨w3.heap.size, 2, none⟩ = some (.slice ca' cc'.length ck') := by refine ⟨?_, ?_, ?_, ?_, ?_, ?_, ?_, ?_, ?_, ?_, ?_, ?_, ?_, ?_, ?_⟩ <;> (refine (hb4.cell ?_).trans ?_ <;> first | (first | (with_reducible assumption) | omega | (simp only [World.size_alloc, World.size_setCell, World.size_drew, World.heap_drewN] <;> omega) | (simp <;> omega)) | (first | (with_reducible assumption) | ((try simp (disch := first | omega | (simp only [World.size_alloc, World.size_setCell, World.size_drew, World.heap_drewN] <;> omega) | fail) only [World.cell?_alloc_past, World.cell?_alloc_at, World.frozen?_alloc_past, World.frozen?_alloc_at, World.frozen?_setCell, World.cell?_drew, World.frozen?_drew]) <;> first | (with_reducible assumption) | rfl)))
  have all_z : w.heap.size < w4.heap.size ∧ w.heap.size + 1 < w4.heap.size ∧ w3.heap.size < w4.heap.size := by refine ⟨?_, ?_, ?_⟩ <;> (omega)
  clear c_a0 c_a1 c_a2 c_a3 c_a4 c_a5 c_b0 c_b1 c_b2 c_b3 c_b4 c_b5 z_a z_b
  obtain ⟨c_a0, c_a1, c_a2, c_a3, c_a4, c_a5, c_b0, c_b1, c_b2, c_b3, c_b4, c_b5, c_x0, c_x1, c_x2⟩ := all_c
  try clear all_c
  obtain ⟨z_a, z_b, z_x⟩ := all_z
  try clear all_z
  have h4 : Below w3.heap.size w3 w4 := below_via hb4 hx (by simp)
  obtain ⟨ma4, mc4, rfl, i1, -, -, -, -⟩ := row_of_owns o1
  obtain ⟨ca4, ck4, rfl, i2, -, -, -, -⟩ := row_of_owns o2
  have J1 := Lib.hid (fun W (hb : Below w4.heap.size w4 W) => i1.below hb)
  have J2 := Lib.hid (fun W (hb : Below w4.heap.size w4 W) => i2.below hb)
  clear o1 o2 i1 i2 hb4 hx
  have hz : Below w4.heap.size w4 (w4.alloc (.cells #[.int .i64 Ld, .slice ma4 dm.length mc4, .slice ca4 dc.length ck4] 25)) := (Below.refl _ _).alloc (Nat.le_refl _) _
  go_wp2_with fail
  refine (TU.out _ (by (repeat (first | (with_reducible exact Below.refl _ _) | (with_reducible assumption) | (with_reducible exact Hid.out (by with_reducible assumption)) | (with_reducible refine Below.alloc ?_ ?_ _) | (with_reducible refine Below.setCell ?_ ?_ _) | (with_reducible refine below_drewN ?_ _) | (with_reducible refine Below.drew ?_) | (with_reducible refine below_via (by with_reducible assumption) ?_ ?_) | (first | (with_reducible assumption) | omega | (simp only [World.size_alloc, World.size_setCell, World.size_drew, World.heap_drewN] <;> omega) | (simp <;> omega)))))).mono ?_
  rintro e w5 ⟨rfl, hb5⟩
  have hz_w5 := hb5.size
  try simp only [World.size_alloc, World.size_setCell] at hz_w5
  have all_c : w5.cell? ⟨w.heap.size + 1, 0, none⟩ = some (.int .i64 bseg) ∧ w5.cell? ⟨w.heap.size + 1, 1, none⟩ = some (.slice bwa blw bwc) ∧ w5.cell? ⟨w.heap.size + 1, 2, none⟩ = some (.slice bka blk bkc) ∧ w5.cell? ⟨w.heap.size + 1, 3, none⟩ = some (.slice bva blv bvc) ∧ w5.cell? ⟨w.heap.size + 1, 4, none⟩ = some (.slice bca blc bcc) ∧ w5.cell? ⟨w.heap.size + 1, 5, none⟩ = some (.int .u64 blaid) ∧ w5.cell? ⟨w3.heap.size, 0, none⟩ = some (.int .i64 Lc) ∧ w5.cell? ⟨w3.heap.size, 1, none⟩ = some (.slice ma' cm.length mc') ∧ w5.cell? ⟨w3.heap.size, 2, none⟩ = some (.slice ca' cc'.length ck') ∧ w5.cell? ⟨w4.heap.size, 0, none⟩ = some (.int .i64 Ld) ∧ w5.cell? ⟨w4.heap.size, 1, none⟩ = some (.slice ma4 dm.length mc4) ∧ w5.cell? ⟨w4.heap.size, 2, none⟩ = some (.slice ca4 dc.length ck4) := by refine ⟨?_, ?_, ?_, ?_, ?_, ?_, ?_, ?_, ?_, ?_, ?_, ?_⟩ <;> (refine (hb5.cell ?_).trans ?_ <;> first | (first | (with_reducible assumption) | omega | (simp only [World.size_alloc, World.size_setCell, World.size_drew, World.heap_drewN] <;> omega) | (simp <;> omega)) | (first | (with_reducible assumption) | ((try simp (disch := first | omega | (simp only [World.size_alloc, World.size_setCell, World.size_drew, World.heap_drewN] <;> omega) | fail) only [World.cell?_alloc_past, World.cell?_alloc_at, World.frozen?_alloc_past, World.frozen?_alloc_at, World.frozen?_setCell, World.cell?_drew, World.frozen?_drew]) <;> first | (with_reducible assumption) | rfl)))
  have all_z : w.heap.size + 1 < w5.heap.size ∧ w3.heap.size < w5.heap.size ∧ w4.heap.size < w5.heap.size := by refine ⟨?_, ?_, ?_⟩ <;> (omega)
  clear c_b0 c_b1 c_b2 c_b3 c_b4 c_b5 c_x0 c_x1 c_x2 z_b z_x
  obtain ⟨c_b0, c_b1, c_b2, c_b3, c_b4, c_b5, c_x0, c_x1, c_x2, c_z0, c_z1, c_z2⟩ := all_c
  try clear all_c
  obtain ⟨z_b, z_x, z_z⟩ := all_z
  try clear all_z
  have h45 : Below w4.heap.size w4 w5 := below_via hb5 hz (by simp)
  have h35 : Below w3.heap.size w3 w5 := below_via h45 h4 (by omega)
  clear hb5 hz h4
  go_wp2_with fail
  refine (WN.out ma' ca' mc' ck' _ (by (repeat (first | (with_reducible exact Below.refl _ _) | (with_reducible assumption) | (with_reducible exact Hid.out (by with_reducible assumption)) | (with_reducible refine Below.alloc ?_ ?_ _) | (with_reducible refine Below.setCell ?_ ?_ _) | (with_reducible refine below_drewN ?_ _) | (with_reducible refine Below.drew ?_) | (with_reducible refine below_via (by with_reducible assumption) ?_ ?_) | (first | (with_reducible assumption) | omega | (simp only [World.size_alloc, World.size_setCell, World.size_drew, World.heap_drewN] <;> omega) | (simp <;> omega))))) (I1.out _ h35) (I2.out _ h35)).mono ?_
  rintro e w6 ⟨v, u, rfl, o1, o2, hb6⟩
  have hz_w6 := hb6.size
  try simp only [World.size_alloc, World.size_setCell] at hz_w6
  have all_c : w6.cell? ⟨w.heap.size + 1, 0, none⟩ = some (.int .i64 bseg) ∧ w6.cell? ⟨w.heap.size + 1, 1, none⟩ = some (.slice bwa blw bwc) ∧ w6.cell? ⟨w.heap.size + 1, 2, none⟩ = some (.slice bka blk bkc) ∧ w6.cell? ⟨w.heap.size + 1, 3, none⟩ = some (.slice bva blv bvc) ∧ w6.cell? ⟨w.heap.size + 1, 4, none⟩ = some (.slice bca blc bcc) ∧ w6.cell? ⟨w.heap.size + 1, 5, none⟩ = some (.int .u64 blaid) ∧ w6.cell? ⟨w3.heap.size, 0, none⟩ = some (.int .i64 Lc) ∧ w6.cell? ⟨w3.heap.size, 1, none⟩ = some (.slice ma' cm.length mc') ∧ w6.cell? ⟨w3.heap.size, 2, none⟩ = some (.slice ca' cc'.length ck') ∧ w6.cell? ⟨w4.heap.size, 0, none⟩ = some (.int .i64 Ld) ∧ w6.cell? ⟨w4.heap.size, 1, none⟩ = some (.slice ma4 dm.length mc4) ∧ w6.cell? ⟨w4.heap.size, 2, none⟩ = some (.slice ca4 dc.length ck4) := by refine ⟨?_, ?_, ?_, ?_, ?_, ?_, ?_, ?_, ?_, ?_, ?_, ?_⟩ <;> (refine (hb6.cell ?_).trans ?_ <;> first | (first | (with_reducible assumption) | omega | (simp only [World.size_alloc, World.size_setCell, World.size_drew, World.heap_drewN] <;> omega) | (simp <;> omega)) | (first | (with_reducible assumption) | ((try simp (disch := first | omega | (simp only [World.size_alloc, World.size_setCell, World.size_drew, World.heap_drewN] <;> omega) | fail) only [World.cell?_alloc_past, World.cell?_alloc_at, World.frozen?_alloc_past, World.frozen?_alloc_at, World.frozen?_setCell, World.cell?_drew, World.frozen?_drew]) <;> first | (with_reducible assumption) | rfl)))
  have all_z : w.heap.size + 1 < w6.heap.size ∧ w3.heap.size < w6.heap.size ∧ w4.heap.size < w6.heap.size := by refine ⟨?_, ?_, ?_⟩ <;> (omega)
  clear c_b0 c_b1 c_b2 c_b3 c_b4 c_b5 c_x0 c_x1 c_x2 c_z0 c_z1 c_z2 z_b z_x z_z
  obtain ⟨c_b0, c_b1, c_b2, c_b3, c_b4, c_b5, c_x0, c_x1, c_x2, c_z0, c_z1, c_z2⟩ := all_c
  try clear all_c
  obtain ⟨z_b, z_x, z_z⟩ := all_z
  try clear all_z
  have h46 : Below w4.heap.size w4 w6 := below_via hb6 h45 (by omega)
  have h36 : Below w3.heap.size w3 w6 := below_via hb6 h35 (by omega)
  obtain ⟨ma6, mc6, rfl, i1, -, -, -, -⟩ := row_of_owns o1
  obtain ⟨ca6, ck6, rfl, i2, -, -, -, -⟩ := row_of_owns o2
  have M1 := Lib.hid (fun W (hb : Below w6.heap.size w6 W) => i1.below hb)
  have M2 := Lib.hid (fun W (hb : Below w6.heap.size w6 W) => i2.below hb)
  clear o1 o2 i1 i2 hb6 h45 h35
  have hn : Below w6.heap.size w6 (w6.alloc (.cells #[.int .i64 Lc, .slice ma6 cm.length mc6, .slice ca6 cc'.length ck6] 25)) := (Below.refl _ _).alloc (Nat.le_refl _) _
  have hn3 : Below w3.heap.size w3 (w6.alloc (.cells #[.int .i64 Lc, .slice ma6 cm.length mc6, .slice ca6 cc'.length ck6] 25)) := h36.alloc (by omega) _
  have hn4 : Below w4.heap.size w4 (w6.alloc (.cells #[.int .i64 Lc, .slice ma6 cm.length mc6, .slice ca6 cc'.length ck6] 25)) := h46.alloc (by omega) _
  go_wp2_with fail
  refine (WD.out ma' ca' mc' ck' _ (by (repeat (first | (with_reducible exact Below.refl _ _) | (with_reducible assumption) | (with_reducible exact Hid.out (by with_reducible assumption)) | (with_reducible refine Below.alloc ?_ ?_ _) | (with_reducible refine Below.setCell ?_ ?_ _) | (with_reducible refine below_drewN ?_ _) | (with_reducible refine Below.drew ?_) | (with_reducible refine below_via (by with_reducible assumption) ?_ ?_) | (first | (with_reducible assumption) | omega | (simp only [World.size_alloc, World.size_setCell, World.size_drew, World.heap_drewN] <;> omega) | (simp <;> omega))))) (I1.out _ hn3) (I2.out _ hn3)).mono ?_
  rintro e w7 ⟨v, u, rfl, o1, o2, hb7⟩
  have hz_w7 := hb7.size
  try simp only [World.size_alloc, World.size_setCell] at hz_w7
  have all_c : w7.cell? ⟨w3.heap.size, 0, none⟩ = some (.int .i64 Lc) ∧ w7.cell? ⟨w3.heap.size, 1, none⟩ = some (.slice ma' cm.length mc') ∧ w7.cell? ⟨w3.heap.size, 2, none⟩ = some (.slice ca' cc'.length ck') ∧ w7.cell? ⟨w4.heap.size, 0, none⟩ = some (.int .i64 Ld) ∧ w7.cell? ⟨w4.heap.size, 1, none⟩ = some (.slice ma4 dm.length mc4) ∧ w7.cell? ⟨w4.heap.size, 2, none⟩ = some (.slice ca4 dc.length ck4) ∧ w7.cell? ⟨w6.heap.size, 0, none⟩ = some (.int .i64 Lc) ∧ w7.cell? ⟨w6.heap.size, 1, none⟩ = some (.slice ma6 cm.length mc6) ∧ w7.cell? ⟨w6.heap.size, 2, none⟩ = some (.slice ca6 cc'.length ck6) := by refine ⟨?_, ?_, ?_, ?_, ?_, ?_, ?_, ?_, ?_⟩ <;> (refine (hb7.cell ?_).trans ?_ <;> first | (first | (with_reducible assumption) | omega | (simp only [World.size_alloc, World.size_setCell, World.size_drew, World.heap_drewN] <;> omega) | (simp <;> omega)) | (first | (with_reducible assumption) | ((try simp (disch := first | omega | (simp only [World.size_alloc, World.size_setCell, World.size_drew, World.heap_drewN] <;> omega) | fail) only [World.cell?_alloc_past, World.cell?_alloc_at, World.frozen?_alloc_past, World.frozen?_alloc_at, World.frozen?_setCell, World.cell?_drew, World.frozen?_drew]) <;> first | (with_reducible assumption) | rfl)))
  have all_z : w3.heap.size < w7.heap.size ∧ w4.heap.size < w7.heap.size ∧ w6.heap.size < w7.heap.size := by refine ⟨?_, ?_, ?_⟩ <;> (omega)
  clear c_x0 c_x1 c_x2 c_z0 c_z1 c_z2 z_x z_z
  obtain ⟨c_x0, c_x1, c_x2, c_z0, c_z1, c_z2, c_n0, c_n1, c_n2⟩ := all_c
  try clear all_c
  obtain ⟨z_x, z_z, z_n⟩ := all_z
  try clear all_z
  have h67 : Below w6.heap.size w6 w7 := below_via hb7 hn (by simp)
  have h47 : Below w4.heap.size w4 w7 := below_via hb7 hn4 (by simp <;> omega)
  have h37 : Below w3.heap.size w3 w7 := below_via hb7 hn3 (by simp <;> omega)
  obtain ⟨ma7, mc7, rfl, i1, -, -, -, -⟩ := row_of_owns o1
  obtain ⟨ca7, ck7, rfl, i2, -, -, -, -⟩ := row_of_owns o2
  have N1 := Lib.hid (fun W (hb : Below w7.heap.size w7 W) => i1.below hb)
  have N2 := Lib.hid (fun W (hb : Below w7.heap.size w7 W) => i2.below hb)
  clear o1 o2 i1 i2 hb7 hn hn3 hn4 h46 h36
  have hy : Below w7.heap.size w7 (w7.alloc (.cells #[.int .i64 Ld, .slice ma7 dm.length mc7, .slice ca7 dc.length ck7] 25)) := (Below.refl _ _).alloc (Nat.le_refl _) _
  have hy6 := below_via hy h67 (by omega)
  have hy3 := below_via hy h37 (by omega)
  have hy4 := below_via hy h47 (by omega)
  go_wp2_with fail
  refine (SC.out ma6 ca6 ma' ca' mc6 ck6 mc' ck' _ (M1.out _ hy6) (M2.out _ hy6) (I1.out _ hy3) (I2.out _ hy3)).mono ?_
  rintro e w8 ⟨rfl, hb8⟩
  have hz_w8 := hb8.size
  try simp only [World.size_alloc, World.size_setCell] at hz_w8
  have all_c : w8.cell? ⟨w4.heap.size, 0, none⟩ = some (.int .i64 Ld) ∧ w8.cell? ⟨w4.heap.size, 1, none⟩ = some (.slice ma4 dm.length mc4) ∧ w8.cell? ⟨w4.heap.size, 2, none⟩ = some (.slice ca4 dc.length ck4) ∧ w8.cell? ⟨w7.heap.size, 0, none⟩ = some (.int .i64 Ld) ∧ w8.cell? ⟨w7.heap.size, 1, none⟩ = some (.slice ma7 dm.length mc7) ∧ w8.cell? ⟨w7.heap.size, 2, none⟩ = some (.slice ca7 dc.length ck7) := by refine ⟨?_, ?_, ?_, ?_, ?_, ?_⟩ <;> (refine (hb8.cell ?_).trans ?_ <;> first | (first | (with_reducible assumption) | omega | (simp only [World.size_alloc, World.size_setCell, World.size_drew, World.heap_drewN] <;> omega) | (simp <;> omega)) | (first | (with_reducible assumption) | ((try simp (disch := first | omega | (simp only [World.size_alloc, World.size_setCell, World.size_drew, World.heap_drewN] <;> omega) | fail) only [World.cell?_alloc_past, World.cell?_alloc_at, World.frozen?_alloc_past, World.frozen?_alloc_at, World.frozen?_setCell, World.cell?_drew, World.frozen?_drew]) <;> first | (with_reducible assumption) | rfl)))
  have all_z : w4.heap.size < w8.heap.size ∧ w7.heap.size < w8.heap.size := by refine ⟨?_, ?_⟩ <;> (omega)
  clear c_z0 c_z1 c_z2 z_z
  obtain ⟨c_z0, c_z1, c_z2, c_y0, c_y1, c_y2⟩ := all_c
  try clear all_c
  obtain ⟨z_z, z_y⟩ := all_z
  try clear all_z
  have h8 : Below w7.heap.size w7 w8 := below_via hb8 hy (by simp)
  have h84 : Below w4.heap.size w4 w8 := below_via h8 h47 (by omega)
  have h83 : Below w3.heap.size w3 w8 := below_via h8 h37 (by omega)
  clear hb8 hy hy6 hy3 hy4
  go_wp2_with fail
  refine (SD.out ma7 ca7 ma4 ca4 mc7 ck7 mc4 ck4 _ (N1.out _ h8) (N2.out _ h8) (J1.out _ h84) (J2.out _ h84)).mono ?_
  rintro e w9 ⟨rfl, hb9⟩
  have hz_w9 := hb9.size
  try simp only [World.size_alloc, World.size_setCell] at hz_w9
  go_wp2
  go_ret
  exact ⟨rfl, below_via hb9 (below_via h83 hB3 (by omega)) (by omega)⟩

set_option maxRecDepth 100000 in
set_option maxHeartbeats 4000000 in
theorem MA_inbb (aseg : Int) (awa aka ava aca : Option Addr) (awc akc avc acc alw alk alv alc : Nat) (alaid : Int) (bseg : Int) (bwa bka bva bca : Option Addr) (bwc bkc bvc bcc blw blk blv blc : Nat) (blaid : Int) (lf rt : Int) (w : World) (Lc Ld : Int) (F T : Nat) (cm cc' dm dc : List Int) (G1 : Hid (∀ W, Calls Try.prog 10 #[.agg #[.int .i64 aseg, .slice awa alw awc, .slice aka alk akc, .slice ava alv avc, .slice aca alc acc, .int .u64 alaid], .int .i64 600] W (AnsB W (.bool false)))) (G2 : Hid (∀ W, Calls Try.prog 10 #[.agg #[.int .i64 bseg, .slice bwa blw bwc, .slice bka blk bkc, .slice bva blv bvc, .slice bca blc bcc, .int .u64 blaid], .int .i64 600] W (AnsB W (.bool false))))
    (hlf : 0 ≤ lf ∧ lf < 256) (hrt : 0 ≤ rt ∧ rt < 256) (hF : F ≤ 600) (hT : T ≤ 600) (hA : (F : Int) ≤ lf) (hB : (blc : Int) ≤ (T : Int) + rt)
    (BA : Hid (∀ W, Below w.heap.size w W → Calls Try.prog 23 #[.agg #[.int .i64 aseg, .slice awa alw awc, .slice aka alk akc, .slice ava alv avc, .slice aca alc acc, .int .u64 alaid]] W (FreshIx2 W Lc cm cc' (.int .i64 0))))
    (BB : Hid (∀ W, Below w.heap.size w W → Calls Try.prog 23 #[.agg #[.int .i64 bseg, .slice bwa blw bwc, .slice bka blk bkc, .slice bva blv bvc, .slice bca blc bcc, .int .u64 blaid]] W (FreshIx2 W Ld dm dc (.int .i64 0))))
    (TU : Hid (∀ W, Below w.heap.size w W → Calls Try.prog 13 #[.agg #[.int .i64 aseg, .slice awa alw awc, .slice aka alk akc, .slice ava alv avc, .slice aca alc acc, .int .u64 alaid], .agg #[.int .i64 bseg, .slice bwa blw bwc, .slice bka blk bkc, .slice bva blv bvc, .slice bca blc bcc, .int .u64 blaid]] W (AnsB W (.tuple #[.int .i64 F, .int .i64 T, .int .i64 0]))))
    (WN : Hid (∀ xa xb xc xd W, Below w.heap.size w W → IsRow .i64 W xa cm → IsRow .i64 W xb cc' → Calls Try.prog 15 #[ixV Lc xa cm.length xc xb cc'.length xd, .agg #[.int .i64 bseg, .slice bwa blw bwc, .slice bka blk bkc, .slice bva blv bvc, .slice bca blc bcc, .int .u64 blaid], .int .i64 F, .int .i64 F] W (FreshIx2 W Lc cm cc' (.int .i64 0))))
    (WD : Hid (∀ xa xb xc xd W, Below w.heap.size w W → IsRow .i64 W xa cm → IsRow .i64 W xb cc' → Calls Try.prog 15 #[ixV Lc xa cm.length xc xb cc'.length xd, .agg #[.int .i64 bseg, .slice bwa blw bwc, .slice bka blk bkc, .slice bva blv bvc, .slice bca blc bcc, .int .u64 blaid], .int .i64 0, .int .i64 blc] W (FreshIx2 W Ld dm dc (.int .i64 0))))
    (SC : Hid (∀ xa xb ya yb xc xd yc yd W, IsRow .i64 W xa cm → IsRow .i64 W xb cc' → IsRow .i64 W ya cm → IsRow .i64 W yb cc' → Calls Try.prog 24 #[ixV Lc xa cm.length xc xb cc'.length xd, ixV Lc ya cm.length yc yb cc'.length yd] W (AnsB W (.bool true))))
    (SD : Hid (∀ xa xb ya yb xc xd yc yd W, IsRow .i64 W xa dm → IsRow .i64 W xb dc → IsRow .i64 W ya dm → IsRow .i64 W yb dc → Calls Try.prog 24 #[ixV Ld xa dm.length xc xb dc.length xd, ixV Ld ya dm.length yc yb dc.length yd] W (AnsB W (.bool true)))) :
    Calls Try.prog 5 #[.agg #[.int .i64 aseg, .slice awa alw awc, .slice aka alk akc, .slice ava alv avc, .slice aca alc acc, .int .u64 alaid], .agg #[.int .i64 bseg, .slice bwa blw bwc, .slice bka blk bkc, .slice bva blv bvc, .slice bca blc bcc, .int .u64 blaid], .int .u8 lf, .int .u8 rt] w (AnsB w (.bool true)) := by
  have AL := Lib.hid alive20_ok
  have k1 : IntKind.i64.wrap lf = lf := IntWalk.i64_in _ (by omega)
  have k2 : IntKind.i64.wrap rt = rt := IntWalk.i64_in _ (by omega)
  have k3 : IntKind.i64.wrap ((F : Int) - lf) = (F : Int) - lf := IntWalk.i64_in _ (by omega)
  have k4 : IntKind.i64.wrap ((T : Int) + rt) = (T : Int) + rt := IntWalk.i64_in _ (by omega)
  clear hlf hrt hF hT
  go_enter Try.func5, Try.ntmps5
  go_wp2_with fail
  refine (AL.out _).mono ?_
  rintro e w1 ⟨rfl, hb1⟩
  have hz_w1 := hb1.size
  try simp only [World.size_alloc, World.size_setCell] at hz_w1
  have all_c : w1.cell? ⟨w.heap.size, 0, none⟩ = some (.int .i64 aseg) ∧ w1.cell? ⟨w.heap.size, 1, none⟩ = some (.slice awa alw awc) ∧ w1.cell? ⟨w.heap.size, 2, none⟩ = some (.slice aka alk akc) ∧ w1.cell? ⟨w.heap.size, 3, none⟩ = some (.slice ava alv avc) ∧ w1.cell? ⟨w.heap.size, 4, none⟩ = some (.slice aca alc acc) ∧ w1.cell? ⟨w.heap.size, 5, none⟩ = some (.int .u64 alaid) ∧ w1.cell? ⟨w.heap.size + 1, 0, none⟩ = some (.int .i64 bseg) ∧ w1.cell? ⟨w.heap.size + 1, 1, none⟩ = some (.slice bwa blw bwc) ∧ w1.cell? ⟨w.heap.size + 1, 2, none⟩ = some (.slice bka blk bkc) ∧ w1.cell? ⟨w.heap.size + 1, 3, none⟩ = some (.slice bva blv bvc) ∧ w1.cell? ⟨w.heap.size + 1, 4, none⟩ = some (.slice bca blc bcc) ∧ w1.cell? ⟨w.heap.size + 1, 5, none⟩ = some (.int .u64 blaid) := by refine ⟨?_, ?_, ?_, ?_, ?_, ?_, ?_, ?_, ?_, ?_, ?_, ?_⟩ <;> (refine (hb1.cell ?_).trans ?_ <;> first | (first | (with_reducible assumption) | omega | (simp only [World.size_alloc, World.size_setCell, World.size_drew, World.heap_drewN] <;> omega) | (simp <;> omega)) | (first | (with_reducible assumption) | ((try simp (disch := first | omega | (simp only [World.size_alloc, World.size_setCell, World.size_drew, World.heap_drewN] <;> omega) | fail) only [World.cell?_alloc_past, World.cell?_alloc_at, World.frozen?_alloc_past, World.frozen?_alloc_at, World.frozen?_setCell, World.cell?_drew, World.frozen?_drew]) <;> first | (with_reducible assumption) | rfl)))
  have all_z : w.heap.size < w1.heap.size ∧ w.heap.size + 1 < w1.heap.size := by refine ⟨?_, ?_⟩ <;> (omega)
  obtain ⟨c_a0, c_a1, c_a2, c_a3, c_a4, c_a5, c_b0, c_b1, c_b2, c_b3, c_b4, c_b5⟩ := all_c
  try clear all_c
  obtain ⟨z_a, z_b⟩ := all_z
  try clear all_z
  have hB1 : Below w.heap.size w w1 := by (repeat (first | (with_reducible exact Below.refl _ _) | (with_reducible assumption) | (with_reducible exact Hid.out (by with_reducible assumption)) | (with_reducible refine Below.alloc ?_ ?_ _) | (with_reducible refine Below.setCell ?_ ?_ _) | (with_reducible refine below_drewN ?_ _) | (with_reducible refine Below.drew ?_) | (with_reducible refine below_via (by with_reducible assumption) ?_ ?_) | (first | (with_reducible assumption) | omega | (simp only [World.size_alloc, World.size_setCell, World.size_drew, World.heap_drewN] <;> omega) | (simp <;> omega))))
  go_wp2_with fail
  refine (G1.out _).mono ?_
  rintro e v1 ⟨rfl, hv1⟩
  have hz_v1 := hv1.size
  try simp only [World.size_alloc, World.size_setCell] at hz_v1
  have all_c : v1.cell? ⟨w.heap.size, 0, none⟩ = some (.int .i64 aseg) ∧ v1.cell? ⟨w.heap.size, 1, none⟩ = some (.slice awa alw awc) ∧ v1.cell? ⟨w.heap.size, 2, none⟩ = some (.slice aka alk akc) ∧ v1.cell? ⟨w.heap.size, 3, none⟩ = some (.slice ava alv avc) ∧ v1.cell? ⟨w.heap.size, 4, none⟩ = some (.slice aca alc acc) ∧ v1.cell? ⟨w.heap.size, 5, none⟩ = some (.int .u64 alaid) ∧ v1.cell? ⟨w.heap.size + 1, 0, none⟩ = some (.int .i64 bseg) ∧ v1.cell? ⟨w.heap.size + 1, 1, none⟩ = some (.slice bwa blw bwc) ∧ v1.cell? ⟨w.heap.size + 1, 2, none⟩ = some (.slice bka blk bkc) ∧ v1.cell? ⟨w.heap.size + 1, 3, none⟩ = some (.slice bva blv bvc) ∧ v1.cell? ⟨w.heap.size + 1, 4, none⟩ = some (.slice bca blc bcc) ∧ v1.cell? ⟨w.heap.size + 1, 5, none⟩ = some (.int .u64 blaid) := by refine ⟨?_, ?_, ?_, ?_, ?_, ?_, ?_, ?_, ?_, ?_, ?_, ?_⟩ <;> (refine (hv1.cell ?_).trans ?_ <;> first | (first | (with_reducible assumption) | omega | (simp only [World.size_alloc, World.size_setCell, World.size_drew, World.heap_drewN] <;> omega) | (simp <;> omega)) | (first | (with_reducible assumption) | ((try simp (disch := first | omega | (simp only [World.size_alloc, World.size_setCell, World.size_drew, World.heap_drewN] <;> omega) | fail) only [World.cell?_alloc_past, World.cell?_alloc_at, World.frozen?_alloc_past, World.frozen?_alloc_at, World.frozen?_setCell, World.cell?_drew, World.frozen?_drew]) <;> first | (with_reducible assumption) | rfl)))
  have all_z : w.heap.size < v1.heap.size ∧ w.heap.size + 1 < v1.heap.size := by refine ⟨?_, ?_⟩ <;> (omega)
  clear c_a0 c_a1 c_a2 c_a3 c_a4 c_a5 c_b0 c_b1 c_b2 c_b3 c_b4 c_b5 z_a z_b
  obtain ⟨c_a0, c_a1, c_a2, c_a3, c_a4, c_a5, c_b0, c_b1, c_b2, c_b3, c_b4, c_b5⟩ := all_c
  try clear all_c
  obtain ⟨z_a, z_b⟩ := all_z
  try clear all_z
  have hV1 : Below w.heap.size w v1 := by (repeat (first | (with_reducible exact Below.refl _ _) | (with_reducible assumption) | (with_reducible exact Hid.out (by with_reducible assumption)) | (with_reducible refine Below.alloc ?_ ?_ _) | (with_reducible refine Below.setCell ?_ ?_ _) | (with_reducible refine below_drewN ?_ _) | (with_reducible refine Below.drew ?_) | (with_reducible refine below_via (by with_reducible assumption) ?_ ?_) | (first | (with_reducible assumption) | omega | (simp only [World.size_alloc, World.size_setCell, World.size_drew, World.heap_drewN] <;> omega) | (simp <;> omega))))
  go_wp2_with fail
  refine (G2.out _).mono ?_
  rintro e v2 ⟨rfl, hv2⟩
  have hz_v2 := hv2.size
  try simp only [World.size_alloc, World.size_setCell] at hz_v2
  have all_c : v2.cell? ⟨w.heap.size, 0, none⟩ = some (.int .i64 aseg) ∧ v2.cell? ⟨w.heap.size, 1, none⟩ = some (.slice awa alw awc) ∧ v2.cell? ⟨w.heap.size, 2, none⟩ = some (.slice aka alk akc) ∧ v2.cell? ⟨w.heap.size, 3, none⟩ = some (.slice ava alv avc) ∧ v2.cell? ⟨w.heap.size, 4, none⟩ = some (.slice aca alc acc) ∧ v2.cell? ⟨w.heap.size, 5, none⟩ = some (.int .u64 alaid) ∧ v2.cell? ⟨w.heap.size + 1, 0, none⟩ = some (.int .i64 bseg) ∧ v2.cell? ⟨w.heap.size + 1, 1, none⟩ = some (.slice bwa blw bwc) ∧ v2.cell? ⟨w.heap.size + 1, 2, none⟩ = some (.slice bka blk bkc) ∧ v2.cell? ⟨w.heap.size + 1, 3, none⟩ = some (.slice bva blv bvc) ∧ v2.cell? ⟨w.heap.size + 1, 4, none⟩ = some (.slice bca blc bcc) ∧ v2.cell? ⟨w.heap.size + 1, 5, none⟩ = some (.int .u64 blaid) := by refine ⟨?_, ?_, ?_, ?_, ?_, ?_, ?_, ?_, ?_, ?_, ?_, ?_⟩ <;> (refine (hv2.cell ?_).trans ?_ <;> first | (first | (with_reducible assumption) | omega | (simp only [World.size_alloc, World.size_setCell, World.size_drew, World.heap_drewN] <;> omega) | (simp <;> omega)) | (first | (with_reducible assumption) | ((try simp (disch := first | omega | (simp only [World.size_alloc, World.size_setCell, World.size_drew, World.heap_drewN] <;> omega) | fail) only [World.cell?_alloc_past, World.cell?_alloc_at, World.frozen?_alloc_past, World.frozen?_alloc_at, World.frozen?_setCell, World.cell?_drew, World.frozen?_drew]) <;> first | (with_reducible assumption) | rfl)))
  have all_z : w.heap.size < v2.heap.size ∧ w.heap.size + 1 < v2.heap.size := by refine ⟨?_, ?_⟩ <;> (omega)
  clear c_a0 c_a1 c_a2 c_a3 c_a4 c_a5 c_b0 c_b1 c_b2 c_b3 c_b4 c_b5 z_a z_b
  obtain ⟨c_a0, c_a1, c_a2, c_a3, c_a4, c_a5, c_b0, c_b1, c_b2, c_b3, c_b4, c_b5⟩ := all_c
  try clear all_c
  obtain ⟨z_a, z_b⟩ := all_z
  try clear all_z
  have hV2 : Below w.heap.size w v2 := by (repeat (first | (with_reducible exact Below.refl _ _) | (with_reducible assumption) | (with_reducible exact Hid.out (by with_reducible assumption)) | (with_reducible refine Below.alloc ?_ ?_ _) | (with_reducible refine Below.setCell ?_ ?_ _) | (with_reducible refine below_drewN ?_ _) | (with_reducible refine Below.drew ?_) | (with_reducible refine below_via (by with_reducible assumption) ?_ ?_) | (first | (with_reducible assumption) | omega | (simp only [World.size_alloc, World.size_setCell, World.size_drew, World.heap_drewN] <;> omega) | (simp <;> omega))))
  go_wp2_with fail
  refine (BA.out _ hV2).mono ?_
  rintro e w3 ⟨v, u, rfl, o1, o2, hb3⟩
  have hz_w3 := hb3.size
  try simp only [World.size_alloc, World.size_setCell] at hz_w3
  have all_c : w3.cell? ⟨w.heap.size, 0, none⟩ = some (.int .i64 aseg) ∧ w3.cell? ⟨w.heap.size, 1, none⟩ = some (.slice awa alw awc) ∧ w3.cell? ⟨w.heap.size, 2, none⟩ = some (.slice aka alk akc) ∧ w3.cell? ⟨w.heap.size, 3, none⟩ = some (.slice ava alv avc) ∧ w3.cell? ⟨w.heap.size, 4, none⟩ = some (.slice aca alc acc) ∧ w3.cell? ⟨w.heap.size, 5, none⟩ = some (.int .u64 alaid) ∧ w3.cell? ⟨w.heap.size + 1, 0, none⟩ = some (.int .i64 bseg) ∧ w3.cell? ⟨w.heap.size + 1, 1, none⟩ = some (.slice bwa blw bwc) ∧ w3.cell? ⟨w.heap.size + 1, 2, none⟩ = some (.slice bka blk bkc) ∧ w3.cell? ⟨w.heap.size + 1, 3, none⟩ = some (.slice bva blv bvc) ∧ w3.cell? ⟨w.heap.size + 1, 4, none⟩ = some (.slice bca blc bcc) ∧ w3.cell? ⟨w.heap.size + 1, 5, none⟩ = some (.int .u64 blaid) := by refine ⟨?_, ?_, ?_, ?_, ?_, ?_, ?_, ?_, ?_, ?_, ?_, ?_⟩ <;> (refine (hb3.cell ?_).trans ?_ <;> first | (first | (with_reducible assumption) | omega | (simp only [World.size_alloc, World.size_setCell, World.size_drew, World.heap_drewN] <;> omega) | (simp <;> omega)) | (first | (with_reducible assumption) | ((try simp (disch := first | omega | (simp only [World.size_alloc, World.size_setCell, World.size_drew, World.heap_drewN] <;> omega) | fail) only [World.cell?_alloc_past, World.cell?_alloc_at, World.frozen?_alloc_past, World.frozen?_alloc_at, World.frozen?_setCell, World.cell?_drew, World.frozen?_drew]) <;> first | (with_reducible assumption) | rfl)))
  have all_z : w.heap.size < w3.heap.size ∧ w.heap.size + 1 < w3.heap.size := by refine ⟨?_, ?_⟩ <;> (omega)
  clear c_a0 c_a1 c_a2 c_a3 c_a4 c_a5 c_b0 c_b1 c_b2 c_b3 c_b4 c_b5 z_a z_b
  obtain ⟨c_a0, c_a1, c_a2, c_a3, c_a4, c_a5, c_b0, c_b1, c_b2, c_b3, c_b4, c_b5⟩ := all_c
  try clear all_c
  obtain ⟨z_a, z_b⟩ := all_z
  try clear all_z
  have hB3 : Below w.heap.size w w3 := by (repeat (first | (with_reducible exact Below.refl _ _) | (with_reducible assumption) | (with_reducible exact Hid.out (by with_reducible assumption)) | (with_reducible refine Below.alloc ?_ ?_ _) | (with_reducible refine Below.setCell ?_ ?_ _) | (with_reducible refine below_drewN ?_ _) | (with_reducible refine Below.drew ?_) | (with_reducible refine below_via (by with_reducible assumption) ?_ ?_) | (first | (with_reducible assumption) | omega | (simp only [World.size_alloc, World.size_setCell, World.size_drew, World.heap_drewN] <;> omega) | (simp <;> omega))))
  obtain ⟨ma', mc', rfl, i1, -, -, -, -⟩ := row_of_owns o1
  obtain ⟨ca', ck', rfl, i2, -, -, -, -⟩ := row_of_owns o2
  have I1 := Lib.hid (fun W (hb : Below w3.heap.size w3 W) => i1.below hb)
  have I2 := Lib.hid (fun W (hb : Below w3.heap.size w3 W) => i2.below hb)
  clear o1 o2 i1 i2 hb3
  have hx : Below w3.heap.size w3 (w3.alloc (.cells #[.int .i64 Lc, .slice ma' cm.length mc', .slice ca' cc'.length ck'] 25)) := (Below.refl _ _).alloc (Nat.le_refl _) _
  go_wp2_with fail
  refine (BB.out _ (by (repeat (first | (with_reducible exact Below.refl _ _) | (with_reducible assumption) | (with_reducible exact Hid.out (by with_reducible assumption)) | (with_reducible refine Below.alloc ?_ ?_ _) | (with_reducible refine Below.setCell ?_ ?_ _) | (with_reducible refine below_drewN ?_ _) | (with_reducible refine Below.drew ?_) | (with_reducible refine below_via (by with_reducible assumption) ?_ ?_) | (first | (with_reducible assumption) | omega | (simp only [World.size_alloc, World.size_setCell, World.size_drew, World.heap_drewN] <;> omega) | (simp <;> omega)))))).mono ?_
  rintro e w4 ⟨v, u, rfl, o1, o2, hb4⟩
  have hz_w4 := hb4.size
  try simp only [World.size_alloc, World.size_setCell] at hz_w4
  have all_c : w4.cell? ⟨w.heap.size, 0, none⟩ = some (.int .i64 aseg) ∧ w4.cell? ⟨w.heap.size, 1, none⟩ = some (.slice awa alw awc) ∧ w4.cell? ⟨w.heap.size, 2, none⟩ = some (.slice aka alk akc) ∧ w4.cell? ⟨w.heap.size, 3, none⟩ = some (.slice ava alv avc) ∧ w4.cell? ⟨w.heap.size, 4, none⟩ = some (.slice aca alc acc) ∧ w4.cell? ⟨w.heap.size, 5, none⟩ = some (.int .u64 alaid) ∧ w4.cell? ⟨w.heap.size + 1, 0, none⟩ = some (.int .i64 bseg) ∧ w4.cell? ⟨w.heap.size + 1, 1, none⟩ = some (.slice bwa blw bwc) ∧ w4.cell? ⟨w.heap.size + 1, 2, none⟩ = some (.slice bka blk bkc) ∧ w4.cell? ⟨w.heap.size + 1, 3, none⟩ = some (.slice bva blv bvc) ∧ w4.cell? ⟨w.heap.size + 1, 4, none⟩ = some (.slice bca blc bcc) ∧ w4.cell? ⟨w.heap.size + 1, 5, none⟩ = some (.int .u64 blaid) ∧ w4.cell? ⟨w3.heap.size, 0, none⟩ = some (.int .i64 Lc) ∧ w4.cell? ⟨w3.heap.size, 1, none⟩ = some (.slice ma' cm.length mc') ∧ w4.cell? ⟨w3.heap.size, 2, none⟩ = some (.slice ca' cc'.length ck') := by refine ⟨?_, ?_, ?_, ?_, ?_, ?_, ?_, ?_, ?_, ?_, ?_, ?_, ?_, ?_, ?_⟩ <;> (refine (hb4.cell ?_).trans ?_ <;> first | (first | (with_reducible assumption) | omega | (simp only [World.size_alloc, World.size_setCell, World.size_drew, World.heap_drewN] <;> omega) | (simp <;> omega)) | (first | (with_reducible assumption) | ((try simp (disch := first | omega | (simp only [World.size_alloc, World.size_setCell, World.size_drew, World.heap_drewN] <;> omega) | fail) only [World.cell?_alloc_past, World.cell?_alloc_at, World.frozen?_alloc_past, World.frozen?_alloc_at, World.frozen?_setCell, World.cell?_drew, World.frozen?_drew]) <;> first | (with_reducible assumption) | rfl)))
  have all_z : w.heap.size < w4.heap.size ∧ w.heap.size + 1 < w4.heap.size ∧ w3.heap.size < w4.heap.size := by refine ⟨?_, ?_, ?_⟩ <;> (omega)
  clear c_a0 c_a1 c_a2 c_a3 c_a4 c_a5 c_b0 c_b1 c_b2 c_b3 c_b4 c_b5 z_a z_b
  obtain ⟨c_a0, c_a1, c_a2, c_a3, c_a4, c_a5, c_b0, c_b1, c_b2, c_b3, c_b4, c_b5, c_x0, c_x1, c_x2⟩ := all_c
  try clear all_c
  obtain ⟨z_a, z_b, z_x⟩ := all_z
  try clear all_z
  have h4 : Below w3.heap.size w3 w4 := below_via hb4 hx (by simp)
  obtain ⟨ma4, mc4, rfl, i1, -, -, -, -⟩ := row_of_owns o1
  obtain ⟨ca4, ck4, rfl, i2, -, -, -, -⟩ := row_of_owns o2
  have J1 := Lib.hid (fun W (hb : Below w4.heap.size w4 W) => i1.below hb)
  have J2 := Lib.hid (fun W (hb : Below w4.heap.size w4 W) => i2.below hb)
  clear o1 o2 i1 i2 hb4 hx
  have hz : Below w4.heap.size w4 (w4.alloc (.cells #[.int .i64 Ld, .slice ma4 dm.length mc4, .slice ca4 dc.length ck4] 25)) := (Below.refl _ _).alloc (Nat.le_refl _) _
  go_wp2_with fail
  refine (TU.out _ (by (repeat (first | (with_reducible exact Below.refl _ _) | (with_reducible assumption) | (with_reducible exact Hid.out (by with_reducible assumption)) | (with_reducible refine Below.alloc ?_ ?_ _) | (with_reducible refine Below.setCell ?_ ?_ _) | (with_reducible refine below_drewN ?_ _) | (with_reducible refine Below.drew ?_) | (with_reducible refine below_via (by with_reducible assumption) ?_ ?_) | (first | (with_reducible assumption) | omega | (simp only [World.size_alloc, World.size_setCell, World.size_drew, World.heap_drewN] <;> omega) | (simp <;> omega)))))).mono ?_
  rintro e w5 ⟨rfl, hb5⟩
  have hz_w5 := hb5.size
  try simp only [World.size_alloc, World.size_setCell] at hz_w5
  have all_c : w5.cell? ⟨w.heap.size + 1, 0, none⟩ = some (.int .i64 bseg) ∧ w5.cell? ⟨w.heap.size + 1, 1, none⟩ = some (.slice bwa blw bwc) ∧ w5.cell? ⟨w.heap.size + 1, 2, none⟩ = some (.slice bka blk bkc) ∧ w5.cell? ⟨w.heap.size + 1, 3, none⟩ = some (.slice bva blv bvc) ∧ w5.cell? ⟨w.heap.size + 1, 4, none⟩ = some (.slice bca blc bcc) ∧ w5.cell? ⟨w.heap.size + 1, 5, none⟩ = some (.int .u64 blaid) ∧ w5.cell? ⟨w3.heap.size, 0, none⟩ = some (.int .i64 Lc) ∧ w5.cell? ⟨w3.heap.size, 1, none⟩ = some (.slice ma' cm.length mc') ∧ w5.cell? ⟨w3.heap.size, 2, none⟩ = some (.slice ca' cc'.length ck') ∧ w5.cell? ⟨w4.heap.size, 0, none⟩ = some (.int .i64 Ld) ∧ w5.cell? ⟨w4.heap.size, 1, none⟩ = some (.slice ma4 dm.length mc4) ∧ w5.cell? ⟨w4.heap.size, 2, none⟩ = some (.slice ca4 dc.length ck4) := by refine ⟨?_, ?_, ?_, ?_, ?_, ?_, ?_, ?_, ?_, ?_, ?_, ?_⟩ <;> (refine (hb5.cell ?_).trans ?_ <;> first | (first | (with_reducible assumption) | omega | (simp only [World.size_alloc, World.size_setCell, World.size_drew, World.heap_drewN] <;> omega) | (simp <;> omega)) | (first | (with_reducible assumption) | ((try simp (disch := first | omega | (simp only [World.size_alloc, World.size_setCell, World.size_drew, World.heap_drewN] <;> omega) | fail) only [World.cell?_alloc_past, World.cell?_alloc_at, World.frozen?_alloc_past, World.frozen?_alloc_at, World.frozen?_setCell, World.cell?_drew, World.frozen?_drew]) <;> first | (with_reducible assumption) | rfl)))
  have all_z : w.heap.size + 1 < w5.heap.size ∧ w3.heap.size < w5.heap.size ∧ w4.heap.size < w5.heap.size := by refine ⟨?_, ?_, ?_⟩ <;> (omega)
  clear c_b0 c_b1 c_b2 c_b3 c_b4 c_b5 c_x0 c_x1 c_x2 z_b z_x
  obtain ⟨c_b0, c_b1, c_b2, c_b3, c_b4, c_b5, c_x0, c_x1, c_x2, c_z0, c_z1, c_z2⟩ := all_c
  try clear all_c
  obtain ⟨z_b, z_x, z_z⟩ := all_z
  try clear all_z
  have h45 : Below w4.heap.size w4 w5 := below_via hb5 hz (by simp)
  have h35 : Below w3.heap.size w3 w5 := below_via h45 h4 (by omega)
  clear hb5 hz h4
  go_wp2_with fail
  refine (WN.out ma' ca' mc' ck' _ (by (repeat (first | (with_reducible exact Below.refl _ _) | (with_reducible assumption) | (with_reducible exact Hid.out (by with_reducible assumption)) | (with_reducible refine Below.alloc ?_ ?_ _) | (with_reducible refine Below.setCell ?_ ?_ _) | (with_reducible refine below_drewN ?_ _) | (with_reducible refine Below.drew ?_) | (with_reducible refine below_via (by with_reducible assumption) ?_ ?_) | (first | (with_reducible assumption) | omega | (simp only [World.size_alloc, World.size_setCell, World.size_drew, World.heap_drewN] <;> omega) | (simp <;> omega))))) (I1.out _ h35) (I2.out _ h35)).mono ?_
  rintro e w6 ⟨v, u, rfl, o1, o2, hb6⟩
  have hz_w6 := hb6.size
  try simp only [World.size_alloc, World.size_setCell] at hz_w6
  have all_c : w6.cell? ⟨w.heap.size + 1, 0, none⟩ = some (.int .i64 bseg) ∧ w6.cell? ⟨w.heap.size + 1, 1, none⟩ = some (.slice bwa blw bwc) ∧ w6.cell? ⟨w.heap.size + 1, 2, none⟩ = some (.slice bka blk bkc) ∧ w6.cell? ⟨w.heap.size + 1, 3, none⟩ = some (.slice bva blv bvc) ∧ w6.cell? ⟨w.heap.size + 1, 4, none⟩ = some (.slice bca blc bcc) ∧ w6.cell? ⟨w.heap.size + 1, 5, none⟩ = some (.int .u64 blaid) ∧ w6.cell? ⟨w3.heap.size, 0, none⟩ = some (.int .i64 Lc) ∧ w6.cell? ⟨w3.heap.size, 1, none⟩ = some (.slice ma' cm.length mc') ∧ w6.cell? ⟨w3.heap.size, 2, none⟩ = some (.slice ca' cc'.length ck') ∧ w6.cell? ⟨w4.heap.size, 0, none⟩ = some (.int .i64 Ld) ∧ w6.cell? ⟨w4.heap.size, 1, none⟩ = some (.slice ma4 dm.length mc4) ∧ w6.cell? ⟨w4.heap.size, 2, none⟩ = some (.slice ca4 dc.length ck4) := by refine ⟨?_, ?_, ?_, ?_, ?_, ?_, ?_, ?_, ?_, ?_, ?_, ?_⟩ <;> (refine (hb6.cell ?_).trans ?_ <;> first | (first | (with_reducible assumption) | omega | (simp only [World.size_alloc, World.size_setCell, World.size_drew, World.heap_drewN] <;> omega) | (simp <;> omega)) | (first | (with_reducible assumption) | ((try simp (disch := first | omega | (simp only [World.size_alloc, World.size_setCell, World.size_drew, World.heap_drewN] <;> omega) | fail) only [World.cell?_alloc_past, World.cell?_alloc_at, World.frozen?_alloc_past, World.frozen?_alloc_at, World.frozen?_setCell, World.cell?_drew, World.frozen?_drew]) <;> first | (with_reducible assumption) | rfl)))
  have all_z : w.heap.size + 1 < w6.heap.size ∧ w3.heap.size < w6.heap.size ∧ w4.heap.size < w6.heap.size := by refine ⟨?_, ?_, ?_⟩ <;> (omega)
  clear c_b0 c_b1 c_b2 c_b3 c_b4 c_b5 c_x0 c_x1 c_x2 c_z0 c_z1 c_z2 z_b z_x z_z
  obtain ⟨c_b0, c_b1, c_b2, c_b3, c_b4, c_b5, c_x0, c_x1, c_x2, c_z0, c_z1, c_z2⟩ := all_c
  try clear all_c
  obtain ⟨z_b, z_x, z_z⟩ := all_z
  try clear all_z
  have h46 : Below w4.heap.size w4 w6 := below_via hb6 h45 (by omega)
  have h36 : Below w3.heap.size w3 w6 := below_via hb6 h35 (by omega)
  obtain ⟨ma6, mc6, rfl, i1, -, -, -, -⟩ := row_of_owns o1
  obtain ⟨ca6, ck6, rfl, i2, -, -, -, -⟩ := row_of_owns o2
  have M1 := Lib.hid (fun W (hb : Below w6.heap.size w6 W) => i1.below hb)
  have M2 := Lib.hid (fun W (hb : Below w6.heap.size w6 W) => i2.below hb)
  clear o1 o2 i1 i2 hb6 h45 h35
  have hn : Below w6.heap.size w6 (w6.alloc (.cells #[.int .i64 Lc, .slice ma6 cm.length mc6, .slice ca6 cc'.length ck6] 25)) := (Below.refl _ _).alloc (Nat.le_refl _) _
  have hn3 : Below w3.heap.size w3 (w6.alloc (.cells #[.int .i64 Lc, .slice ma6 cm.length mc6, .slice ca6 cc'.length ck6] 25)) := h36.alloc (by omega) _
  have hn4 : Below w4.heap.size w4 (w6.alloc (.cells #[.int .i64 Lc, .slice ma6 cm.length mc6, .slice ca6 cc'.length ck6] 25)) := h46.alloc (by omega) _
  go_wp2_with fail
  refine (WD.out ma' ca' mc' ck' _ (by (repeat (first | (with_reducible exact Below.refl _ _) | (with_reducible assumption) | (with_reducible exact Hid.out (by with_reducible assumption)) | (with_reducible refine Below.alloc ?_ ?_ _) | (with_reducible refine Below.setCell ?_ ?_ _) | (with_reducible refine below_drewN ?_ _) | (with_reducible refine Below.drew ?_) | (with_reducible refine below_via (by with_reducible assumption) ?_ ?_) | (first | (with_reducible assumption) | omega | (simp only [World.size_alloc, World.size_setCell, World.size_drew, World.heap_drewN] <;> omega) | (simp <;> omega))))) (I1.out _ hn3) (I2.out _ hn3)).mono ?_
  rintro e w7 ⟨v, u, rfl, o1, o2, hb7⟩
  have hz_w7 := hb7.size
  try simp only [World.size_alloc, World.size_setCell] at hz_w7
  have all_c : w7.cell? ⟨w3.heap.size, 0, none⟩ = some (.int .i64 Lc) ∧ w7.cell? ⟨w3.heap.size, 1, none⟩ = some (.slice ma' cm.length mc') ∧ w7.cell? ⟨w3.heap.size, 2, none⟩ = some (.slice ca' cc'.length ck') ∧ w7.cell? ⟨w4.heap.size, 0, none⟩ = some (.int .i64 Ld) ∧ w7.cell? ⟨w4.heap.size, 1, none⟩ = some (.slice ma4 dm.length mc4) ∧ w7.cell? ⟨w4.heap.size, 2, none⟩ = some (.slice ca4 dc.length ck4) ∧ w7.cell? ⟨w6.heap.size, 0, none⟩ = some (.int .i64 Lc) ∧ w7.cell? ⟨w6.heap.size, 1, none⟩ = some (.slice ma6 cm.length mc6) ∧ w7.cell? ⟨w6.heap.size, 2, none⟩ = some (.slice ca6 cc'.length ck6) := by refine ⟨?_, ?_, ?_, ?_, ?_, ?_, ?_, ?_, ?_⟩ <;> (refine (hb7.cell ?_).trans ?_ <;> first | (first | (with_reducible assumption) | omega | (simp only [World.size_alloc, World.size_setCell, World.size_drew, World.heap_drewN] <;> omega) | (simp <;> omega)) | (first | (with_reducible assumption) | ((try simp (disch := first | omega | (simp only [World.size_alloc, World.size_setCell, World.size_drew, World.heap_drewN] <;> omega) | fail) only [World.cell?_alloc_past, World.cell?_alloc_at, World.frozen?_alloc_past, World.frozen?_alloc_at, World.frozen?_setCell, World.cell?_drew, World.frozen?_drew]) <;> first | (with_reducible assumption) | rfl)))
  have all_z : w3.heap.size < w7.heap.size ∧ w4.heap.size < w7.heap.size ∧ w6.heap.size < w7.heap.size := by refine ⟨?_, ?_, ?_⟩ <;> (omega)
  clear c_x0 c_x1 c_x2 c_z0 c_z1 c_z2 z_x z_z
  obtain ⟨c_x0, c_x1, c_x2, c_z0, c_z1, c_z2, c_n0, c_n1, c_n2⟩ := all_c
  try clear all_c
  obtain ⟨z_x, z_z, z_n⟩ := all_z
  try clear all_z
  have h67 : Below w6.heap.size w6 w7 := below_via hb7 hn (by simp)
  have h47 : Below w4.heap.size w4 w7 := below_via hb7 hn4 (by simp <;> omega)
  have h37 : Below w3.heap.size w3 w7 := below_via hb7 hn3 (by simp <;> omega)
  obtain ⟨ma7, mc7, rfl, i1, -, -, -, -⟩ := row_of_owns o1
  obtain ⟨ca7, ck7, rfl, i2, -, -, -, -⟩ := row_of_owns o2
  have N1 := Lib.hid (fun W (hb : Below w7.heap.size w7 W) => i1.below hb)
  have N2 := Lib.hid (fun W (hb : Below w7.heap.size w7 W) => i2.below hb)
  clear o1 o2 i1 i2 hb7 hn hn3 hn4 h46 h36
  have hy : Below w7.heap.size w7 (w7.alloc (.cells #[.int .i64 Ld, .slice ma7 dm.length mc7, .slice ca7 dc.length ck7] 25)) := (Below.refl _ _).alloc (Nat.le_refl _) _
  have hy6 := below_via hy h67 (by omega)
  have hy3 := below_via hy h37 (by omega)
  have hy4 := below_via hy h47 (by omega)
  go_wp2_with fail
  refine (SC.out ma6 ca6 ma' ca' mc6 ck6 mc' ck' _ (M1.out _ hy6) (M2.out _ hy6) (I1.out _ hy3) (I2.out _ hy3)).mono ?_
  rintro e w8 ⟨rfl, hb8⟩
  have hz_w8 := hb8.size
  try simp only [World.size_alloc, World.size_setCell] at hz_w8
  have all_c : w8.cell? ⟨w4.heap.size, 0, none⟩ = some (.int .i64 Ld) ∧ w8.cell? ⟨w4.heap.size, 1, none⟩ = some (.slice ma4 dm.length mc4) ∧ w8.cell? ⟨w4.heap.size, 2, none⟩ = some (.slice ca4 dc.length ck4) ∧ w8.cell? ⟨w7.heap.size, 0, none⟩ = some (.int .i64 Ld) ∧ w8.cell? ⟨w7.heap.size, 1, none⟩ = some (.slice ma7 dm.length mc7) ∧ w8.cell? ⟨w7.heap.size, 2, none⟩ = some (.slice ca7 dc.length ck7) := by refine ⟨?_, ?_, ?_, ?_, ?_, ?_⟩ <;> (refine (hb8.cell ?_).trans ?_ <;> first | (first | (with_reducible assumption) | omega | (simp only [World.size_alloc, World.size_setCell, World.size_drew, World.heap_drewN] <;> omega) | (simp <;> omega)) | (first | (with_reducible assumption) | ((try simp (disch := first | omega | (simp only [World.size_alloc, World.size_setCell, World.size_drew, World.heap_drewN] <;> omega) | fail) only [World.cell?_alloc_past, World.cell?_alloc_at, World.frozen?_alloc_past, World.frozen?_alloc_at, World.frozen?_setCell, World.cell?_drew, World.frozen?_drew]) <;> first | (with_reducible assumption) | rfl)))
  have all_z : w4.heap.size < w8.heap.size ∧ w7.heap.size < w8.heap.size := by refine ⟨?_, ?_⟩ <;> (omega)
  clear c_z0 c_z1 c_z2 z_z
  obtain ⟨c_z0, c_z1, c_z2, c_y0, c_y1, c_y2⟩ := all_c
  try clear all_c
  obtain ⟨z_z, z_y⟩ := all_z
  try clear all_z
  have h8 : Below w7.heap.size w7 w8 := below_via hb8 hy (by simp)
  have h84 : Below w4.heap.size w4 w8 := below_via h8 h47 (by omega)
  have h83 : Below w3.heap.size w3 w8 := below_via h8 h37 (by omega)
  clear hb8 hy hy6 hy3 hy4
  go_wp2_with fail
  refine (SD.out ma7 ca7 ma4 ca4 mc7 ck7 mc4 ck4 _ (N1.out _ h8) (N2.out _ h8) (J1.out _ h84) (J2.out _ h84)).mono ?_
  rintro e w9 ⟨rfl, hb9⟩
  have hz_w9 := hb9.size
  try simp only [World.size_alloc, World.size_setCell] at hz_w9
  go_wp2
  go_ret
  exact ⟨rfl, below_via hb9 (below_via h83 hB3 (by omega)) (by omega)⟩

theorem MendAround_walk (w : World) (c : SlC) (a : SlA) (hin : SlIn w c a) (q1 : c.ks.length ≤ a.kc) (q2 : c.vs.length ≤ a.vc) (d : SlC) (b : SlA) (hin2 : SlIn w d b) (q3 : d.ks.length ≤ b.kc) (q4 : d.vs.length ≤ b.vc) (lf : Int) (wl : 0 ≤ lf ∧ lf < 256) (rt : Int) (wr : 0 ≤ rt ∧ rt < 256) :
    Calls Try.prog 5 #[slV c a, slV d b, .int .u8 lf, .int .u8 rt] w fun e w' => e = .returned (.bool true) ∧ Below w.heap.size w w' := by
  have G4 : ∀ (c : SlC) (a : SlA), Hid (∀ W, Calls Try.prog 10 #[slV c a, .int .i64 600] W (AnsB W (.bool (gr4 600 c.ks.length c.vs.length c.ws.length c.cs.length)))) := fun c a => Lib.hid (fun W => Great04_ok c.seg a.wa a.ka a.va a.ca a.wc a.kc a.vc a.cc c.ws.length c.ks.length c.vs.length c.cs.length c.laid 600 W)
  have g1 := G4 c a
  have g2 := G4 d b
  by_cases h2 : c.ws.length ≤ 600 ∧ c.ks.length ≤ 600 ∧ c.vs.length ≤ 600 ∧ c.cs.length ≤ 600
  · rw [show gr4 600 c.ks.length c.vs.length c.ws.length c.cs.length = false by simp [gr4]; omega] at g1
    by_cases h3 : d.ws.length ≤ 600 ∧ d.ks.length ≤ 600 ∧ d.vs.length ≤ 600 ∧ d.cs.length ≤ 600
    · rw [show gr4 600 d.ks.length d.vs.length d.ws.length d.cs.length = false by simp [gr4]; omega] at g2
      have BA := Lib.hid (fun W (hb : Below w.heap.size w W) => BuildIx_ok c a (by omega) (by omega) W (hin.below hb))
      have BB := Lib.hid (fun W (hb : Below w.heap.size w W) => BuildIx_ok d b (by omega) (by omega) W (hin2.below hb))
      have TU := Lib.hid (fun W (hb : Below w.heap.size w W) => Turned_ok c d a b (by omega) (by omega) (by omega) (by omega) W (hin.below hb) (hin2.below hb) q1 q2 q3 q4)
      have SM : ∀ c : SlC, Hid (∀ xa xb ya yb xc xd yc yd W, IsRow .i64 W xa (bldM c) → IsRow .i64 W xb (bldC c) → IsRow .i64 W ya (bldM c) → IsRow .i64 W yb (bldC c) → Calls Try.prog 24 #[ixV (bldL c) xa (bldM c).length xc xb (bldC c).length xd, ixV (bldL c) ya (bldM c).length yc yb (bldC c).length yd] W (AnsB W (.bool true))) := fun c => Lib.hid fun xa xb ya yb xc xd yc yd W h1 h2 h3 h4 => by
        have := Same_ix (bldL c) (bldL c) xa xb ya yb xc xd yc yd (bldM c) (bldC c) (bldM c) (bldC c) W h1 h2 h3 h4 (bld_len c).1 (bld_len c).2
        rw [show ixEq (bldL c) (bldM c) (bldC c) (bldL c) (bldM c) (bldC c) = true by simp [ixEq]] at this
        exact this.mono fun e w1 h => ⟨h.1, h.2⟩
      by_cases e1 : bldE c = 0
      · rw [e1] at BA
        by_cases e2 : bldE d = 0
        · rw [e2] at BB
          by_cases e3 : tuE c d = 0
          · have e4 : tuV c d = (((tuF c d c.seg.toNat c.cs.length : Nat) : Int), ((tuT c d c.seg.toNat c.cs.length : Nat) : Int), 0) := if_pos e3
            rw [e4] at TU
            have hcs := tu_cs e3 e1 e2
            have hbd := tu_bd c d c.seg.toNat c.cs.length
            obtain ⟨n1, n2, n3, n4⟩ := wnd_none e1 e2 hcs (lo := ((tuF c d c.seg.toNat c.cs.length : Nat) : Int)) (by omega) (by omega)
            obtain ⟨m1, m2, m3, m4⟩ := wnd_tu e3 e1 e2 (lo := max 0 (((tuF c d c.seg.toNat c.cs.length : Nat) : Int) - lf)) (hi := min (d.cs.length : Int) (((tuT c d c.seg.toNat c.cs.length : Nat) : Int) + rt)) (by omega) (by omega) (by omega) (by omega)
            have MAX : ∀ (P Q : Int), max 0 (((tuF c d c.seg.toNat c.cs.length : Nat) : Int) - lf) = P → min (d.cs.length : Int) (((tuT c d c.seg.toNat c.cs.length : Nat) : Int) + rt) = Q → Hid (∀ xa xb xc xd W, Below w.heap.size w W → IsRow .i64 W xa (bldM c) → IsRow .i64 W xb (bldC c) → Calls Try.prog 15 #[ixV (bldL c) xa (bldM c).length xc xb (bldC c).length xd, slV d b, .int .i64 P, .int .i64 Q] W (FreshIx2 W (bldL d) (bldM d) (bldC d) (.int .i64 0))) := fun P Q hP hQ => Lib.hid fun xa xb xc xd W hb h1 h2 => by
                have := Window_ok (bldL c) xa xb xc xd (bldM c) (bldC c) d b (max 0 (((tuF c d c.seg.toNat c.cs.length : Nat) : Int) - lf)) (min (d.cs.length : Int) (((tuT c d c.seg.toNat c.cs.length : Nat) : Int) + rt)) (by omega) (by omega) W (hin2.below hb) h1 h2 (bld_len c).1 (bld_len c).2
                rw [m1, m2, m3, m4, hP, hQ] at this
                exact this
            have WN := Lib.hid fun xa xb xc xd W (hb : Below w.heap.size w W) h1 h2 => by
                have := Window_ok (bldL c) xa xb xc xd (bldM c) (bldC c) d b ((tuF c d c.seg.toNat c.cs.length : Nat) : Int) ((tuF c d c.seg.toNat c.cs.length : Nat) : Int) (by omega) (by omega) W (hin2.below hb) h1 h2 (bld_len c).1 (bld_len c).2
                rw [n1, n2, n3, n4] at this
                exact this
            generalize tuF c d c.seg.toNat c.cs.length = F at *
            generalize tuT c d c.seg.toNat c.cs.length = Tt at *
            rcases Int.lt_or_le lf F with hA | hA <;> rcases Int.lt_or_le ((Tt : Int) + rt) d.cs.length with hB | hB
            · exact MA_inaa c.seg a.wa a.ka a.va a.ca a.wc a.kc a.vc a.cc c.ws.length c.ks.length c.vs.length c.cs.length c.laid d.seg b.wa b.ka b.va b.ca b.wc b.kc b.vc b.cc d.ws.length d.ks.length d.vs.length d.cs.length d.laid lf rt w (bldL c) (bldL d) F Tt (bldM c) (bldC c) (bldM d) (bldC d) g1 g2 wl wr (by omega) (by omega) hA hB BA BB TU WN (MAX _ _ (by omega) (by omega)) (SM c) (SM d)
            · exact MA_inab c.seg a.wa a.ka a.va a.ca a.wc a.kc a.vc a.cc c.ws.length c.ks.length c.vs.length c.cs.length c.laid d.seg b.wa b.ka b.va b.ca b.wc b.kc b.vc b.cc d.ws.length d.ks.length d.vs.length d.cs.length d.laid lf rt w (bldL c) (bldL d) F Tt (bldM c) (bldC c) (bldM d) (bldC d) g1 g2 wl wr (by omega) (by omega) hA hB BA BB TU WN (MAX _ _ (by omega) (by omega)) (SM c) (SM d)
            · exact MA_inba c.seg a.wa a.ka a.va a.ca a.wc a.kc a.vc a.cc c.ws.length c.ks.length c.vs.length c.cs.length c.laid d.seg b.wa b.ka b.va b.ca b.wc b.kc b.vc b.cc d.ws.length d.ks.length d.vs.length d.cs.length d.laid lf rt w (bldL c) (bldL d) F Tt (bldM c) (bldC c) (bldM d) (bldC d) g1 g2 wl wr (by omega) (by omega) hA hB BA BB TU WN (MAX _ _ (by omega) (by omega)) (SM c) (SM d)
            · exact MA_inbb c.seg a.wa a.ka a.va a.ca a.wc a.kc a.vc a.cc c.ws.length c.ks.length c.vs.length c.cs.length c.laid d.seg b.wa b.ka b.va b.ca b.wc b.kc b.vc b.cc d.ws.length d.ks.length d.vs.length d.cs.length d.laid lf rt w (bldL c) (bldL d) F Tt (bldM c) (bldC c) (bldM d) (bldC d) g1 g2 wl wr (by omega) (by omega) hA hB BA BB TU WN (MAX _ _ (by omega) (by omega)) (SM c) (SM d)
          · exact MA_nog c.seg a.wa a.ka a.va a.ca a.wc a.kc a.vc a.cc c.ws.length c.ks.length c.vs.length c.cs.length c.laid d.seg b.wa b.ka b.va b.ca b.wc b.kc b.vc b.cc d.ws.length d.ks.length d.vs.length d.cs.length d.laid lf rt w (bldL c) (bldL d) _ _ _ (bldM c) (bldC c) (bldM d) (bldC d) (by
              unfold tuV; rw [if_neg e3]; exact e3) g1 g2 BA BB TU
        · exact MA_nof c.seg a.wa a.ka a.va a.ca a.wc a.kc a.vc a.cc c.ws.length c.ks.length c.vs.length c.cs.length c.laid d.seg b.wa b.ka b.va b.ca b.wc b.kc b.vc b.cc d.ws.length d.ks.length d.vs.length d.cs.length d.laid lf rt w (bldL c) (bldL d) _ _ _ _ (bldM c) (bldC c) (bldM d) (bldC d) e2 g1 g2 BA BB TU
      · exact MA_noe c.seg a.wa a.ka a.va a.ca a.wc a.kc a.vc a.cc c.ws.length c.ks.length c.vs.length c.cs.length c.laid d.seg b.wa b.ka b.va b.ca b.wc b.kc b.vc b.cc d.ws.length d.ks.length d.vs.length d.cs.length d.laid lf rt w (bldL c) (bldL d) _ _ _ _ _ (bldM c) (bldC c) (bldM d) (bldC d) e1 g1 g2 BA BB TU
    · rw [show gr4 600 d.ks.length d.vs.length d.ws.length d.cs.length = true by simp [gr4]; omega] at g2
      exact MA_great2 c.seg a.wa a.ka a.va a.ca a.wc a.kc a.vc a.cc c.ws.length c.ks.length c.vs.length c.cs.length c.laid d.seg b.wa b.ka b.va b.ca b.wc b.kc b.vc b.cc d.ws.length d.ks.length d.vs.length d.cs.length d.laid lf rt w g1 g2
  · rw [show gr4 600 c.ks.length c.vs.length c.ws.length c.cs.length = true by simp [gr4]; omega] at g1
    exact MA_great1 c.seg a.wa a.ka a.va a.ca a.wc a.kc a.vc a.cc c.ws.length c.ks.length c.vs.length c.cs.length c.laid d.seg b.wa b.ka b.va b.ca b.wc b.kc b.vc b.cc d.ws.length d.ks.length d.vs.length d.cs.length d.laid lf rt w g1
end Go.Proofs.Ytbmibaafkgleeaa
