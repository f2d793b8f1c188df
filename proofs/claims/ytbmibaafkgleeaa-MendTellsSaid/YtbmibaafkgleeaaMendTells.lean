/-
  MendTells: the segments in which two arrays are unlike, and an index that is told anew by one, or the errors, are the document's; the arguments stay.
  No condition.
-/
import Derived.Test.YtbmibaafkgleeaaTldW
import Derived.Test.YtbmibaafkgleeaaAlike20
import Derived.Test.YtbmibaafkgleeaaWndF
import Derived.Test.YtbmibaafkgleeaaBxSp
import Derived.Test.YtbmibaafkgleeaaIdxFns
import Derived.Deep.CutRange
namespace Go.Proofs.Ytbmibaafkgleeaa
open Go.RowKit Go.Shelf
attribute [local go_sem] Oper.semAt_some
set_option linter.unusedVariables false
set_option linter.unusedSimpArgs false

theorem wnd_len (l : Int) (ms cs : List Int) (d : SlC) (lo hi : Int) : (wndM l ms cs d lo hi).length ≤ 100000 ∧ (wndC l ms cs d lo hi).length ≤ 100000 := by
  unfold wndM wndC
  by_cases h : wndE l ms cs d lo hi = 0
  · have hl : 1 ≤ l ∧ l ≤ 14 := by
      unfold wndE at h
      split at h
      · split at h
        · rename_i h1
          obtain ⟨L, D, N, F, hL, h2, h3, -⟩ := ixMay_parts h1
          omega
        · cases h
      · contradiction
    have hp : 2 ^ l.toNat ≤ 2 ^ 14 := Nat.pow_le_pow_right (by omega) (by omega)
    have h1 : 1 ≤ l.toNat := by omega
    rw [if_pos h, if_pos h, List.length_map, List.length_map, lay_len 1 h1]
    omega
  · rw [if_neg h, if_neg h]
    exact ⟨by simp, by simp⟩

theorem MTl_great1 (l : Int) (ma ica : Option Addr) (mc icc lm li : Nat) (aseg : Int) (awa aka ava aca : Option Addr) (awc akc avc acc alw alk alv alc : Nat) (alaid : Int) (bseg : Int) (bwa bka bva bca : Option Addr) (bwc bkc bvc bcc blw blk blv blc : Nat) (blaid : Int) (x0 x1 : Int) (w : World) (G1 : Hid (∀ W, Calls Try.prog 9 #[.agg #[.int .i64 l, .slice ma lm mc, .slice ica li icc]] W (AnsB W (.bool true)))) :
    Calls Try.prog 3 #[.agg #[.int .i64 l, .slice ma lm mc, .slice ica li icc], .agg #[.int .i64 aseg, .slice awa alw awc, .slice aka alk akc, .slice ava alv avc, .slice aca alc acc, .int .u64 alaid], .agg #[.int .i64 bseg, .slice bwa blw bwc, .slice bka blk bkc, .slice bva blv bvc, .slice bca blc bcc, .int .u64 blaid], .agg #[.int .i64 x0, .int .i64 x1]] w (AnsB w (.bool true)) := by
  go_enter Try.func3, Try.ntmps3
  go_wp2_with fail
  refine (G1.out _).mono ?_
  rintro e v1 ⟨rfl, hv1⟩
  have hz_v1 := hv1.size
  try simp only [World.size_alloc, World.size_setCell] at hz_v1
  have all_c : v1.cell? ⟨w.heap.size, 0, none⟩ = some (.int .i64 l) ∧ v1.cell? ⟨w.heap.size, 1, none⟩ = some (.slice ma lm mc) ∧ v1.cell? ⟨w.heap.size, 2, none⟩ = some (.slice ica li icc) ∧ v1.cell? ⟨w.heap.size + 1, 0, none⟩ = some (.int .i64 aseg) ∧ v1.cell? ⟨w.heap.size + 1, 1, none⟩ = some (.slice awa alw awc) ∧ v1.cell? ⟨w.heap.size + 1, 2, none⟩ = some (.slice aka alk akc) ∧ v1.cell? ⟨w.heap.size + 1, 3, none⟩ = some (.slice ava alv avc) ∧ v1.cell? ⟨w.heap.size + 1, 4, none⟩ = some (.slice aca alc acc) ∧ v1.cell? ⟨w.heap.size + 1, 5, none⟩ = some (.int .u64 alaid) ∧ v1.cell? ⟨w.heap.size + 1 + 1, 0, none⟩ = some (.int .i64 bseg) ∧ v1.cell? ⟨w.heap.size + 1 + 1, 1, none⟩ = some (.slice bwa blw bwc) ∧ v1.cell? ⟨w.heap.size + 1 + 1, 2, none⟩ = some (.slice bka blk bkc) ∧ v1.cell? ⟨w.heap.size + 1 + 1, 3, none⟩ = some (.slice bva blv bvc) ∧ v1.cell? ⟨w.heap.size + 1 + 1, 4, none⟩ = some (.slice bca blc bcc) ∧ v1.cell? ⟨w.heap.size + 1 + 1, 5, none⟩ = some (.int .u64 blaid) ∧ v1.cell? ⟨w.heap.size + 1 + 1 + 1, 0, none⟩ = some (.int .i64 x0) ∧ v1.cell? ⟨w.heap.size + 1 + 1 + 1, 1, none⟩ = some (.int .i64 x1) := by refine ⟨?_, ?_, ?_, ?_, ?_, ?_, ?_, ?_, ?_, ?_, ?_, ?_, ?_, ?_, ?_, ?_, ?_⟩ <;> (refine (hv1.cell ?_).trans ?_ <;> first | (first | (with_reducible assumption) | omega | (simp only [szW] <;> omega) | (simp <;> omega)) | (first | (with_reducible assumption) | ((try simp (disch := first | omega | (simp only [szW] <;> omega) | fail) only [ceW]) <;> first | (with_reducible assumption) | rfl)))
  have all_z : w.heap.size < v1.heap.size ∧ w.heap.size + 1 < v1.heap.size ∧ w.heap.size + 1 + 1 < v1.heap.size ∧ w.heap.size + 1 + 1 + 1 < v1.heap.size := by refine ⟨?_, ?_, ?_, ?_⟩ <;> (omega)
  obtain ⟨c_x0, c_x1, c_x2, c_a0, c_a1, c_a2, c_a3, c_a4, c_a5, c_b0, c_b1, c_b2, c_b3, c_b4, c_b5, c_k0, c_k1⟩ := all_c
  try clear all_c
  obtain ⟨z_x, z_a, z_b, z_k⟩ := all_z
  try clear all_z
  have hV1 : Below w.heap.size w v1 := by (repeat (first | with_reducible (first | exact Below.refl _ _ | assumption | exact Hid.out (by assumption) | refine Below.alloc ?_ ?_ _ | refine Below.setCell ?_ ?_ _ | refine below_drewN ?_ _ | refine Below.drew ?_ | refine below_via (by assumption) ?_ ?_) | (first | (with_reducible assumption) | omega | (simp only [szW] <;> omega) | (simp <;> omega))))
  go_wp2
  go_ret
  exact ⟨rfl, hV1⟩

theorem MTl_great2 (l : Int) (ma ica : Option Addr) (mc icc lm li : Nat) (aseg : Int) (awa aka ava aca : Option Addr) (awc akc avc acc alw alk alv alc : Nat) (alaid : Int) (bseg : Int) (bwa bka bva bca : Option Addr) (bwc bkc bvc bcc blw blk blv blc : Nat) (blaid : Int) (x0 x1 : Int) (w : World) (G1 : Hid (∀ W, Calls Try.prog 9 #[.agg #[.int .i64 l, .slice ma lm mc, .slice ica li icc]] W (AnsB W (.bool false)))) (G2 : Hid (∀ W, Calls Try.prog 10 #[.agg #[.int .i64 aseg, .slice awa alw awc, .slice aka alk akc, .slice ava alv avc, .slice aca alc acc, .int .u64 alaid], .int .i64 600] W (AnsB W (.bool true)))) :
    Calls Try.prog 3 #[.agg #[.int .i64 l, .slice ma lm mc, .slice ica li icc], .agg #[.int .i64 aseg, .slice awa alw awc, .slice aka alk akc, .slice ava alv avc, .slice aca alc acc, .int .u64 alaid], .agg #[.int .i64 bseg, .slice bwa blw bwc, .slice bka blk bkc, .slice bva blv bvc, .slice bca blc bcc, .int .u64 blaid], .agg #[.int .i64 x0, .int .i64 x1]] w (AnsB w (.bool true)) := by
  go_enter Try.func3, Try.ntmps3
  go_wp2_with fail
  refine (G1.out _).mono ?_
  rintro e v1 ⟨rfl, hv1⟩
  have hz_v1 := hv1.size
  try simp only [World.size_alloc, World.size_setCell] at hz_v1
  have all_c : v1.cell? ⟨w.heap.size, 0, none⟩ = some (.int .i64 l) ∧ v1.cell? ⟨w.heap.size, 1, none⟩ = some (.slice ma lm mc) ∧ v1.cell? ⟨w.heap.size, 2, none⟩ = some (.slice ica li icc) ∧ v1.cell? ⟨w.heap.size + 1, 0, none⟩ = some (.int .i64 aseg) ∧ v1.cell? ⟨w.heap.size + 1, 1, none⟩ = some (.slice awa alw awc) ∧ v1.cell? ⟨w.heap.size + 1, 2, none⟩ = some (.slice aka alk akc) ∧ v1.cell? ⟨w.heap.size + 1, 3, none⟩ = some (.slice ava alv avc) ∧ v1.cell? ⟨w.heap.size + 1, 4, none⟩ = some (.slice aca alc acc) ∧ v1.cell? ⟨w.heap.size + 1, 5, none⟩ = some (.int .u64 alaid) ∧ v1.cell? ⟨w.heap.size + 1 + 1, 0, none⟩ = some (.int .i64 bseg) ∧ v1.cell? ⟨w.heap.size + 1 + 1, 1, none⟩ = some (.slice bwa blw bwc) ∧ v1.cell? ⟨w.heap.size + 1 + 1, 2, none⟩ = some (.slice bka blk bkc) ∧ v1.cell? ⟨w.heap.size + 1 + 1, 3, none⟩ = some (.slice bva blv bvc) ∧ v1.cell? ⟨w.heap.size + 1 + 1, 4, none⟩ = some (.slice bca blc bcc) ∧ v1.cell? ⟨w.heap.size + 1 + 1, 5, none⟩ = some (.int .u64 blaid) ∧ v1.cell? ⟨w.heap.size + 1 + 1 + 1, 0, none⟩ = some (.int .i64 x0) ∧ v1.cell? ⟨w.heap.size + 1 + 1 + 1, 1, none⟩ = some (.int .i64 x1) := by refine ⟨?_, ?_, ?_, ?_, ?_, ?_, ?_, ?_, ?_, ?_, ?_, ?_, ?_, ?_, ?_, ?_, ?_⟩ <;> (refine (hv1.cell ?_).trans ?_ <;> first | (first | (with_reducible assumption) | omega | (simp only [szW] <;> omega) | (simp <;> omega)) | (first | (with_reducible assumption) | ((try simp (disch := first | omega | (simp only [szW] <;> omega) | fail) only [ceW]) <;> first | (with_reducible assumption) | rfl)))
  have all_z : w.heap.size < v1.heap.size ∧ w.heap.size + 1 < v1.heap.size ∧ w.heap.size + 1 + 1 < v1.heap.size ∧ w.heap.size + 1 + 1 + 1 < v1.heap.size := by refine ⟨?_, ?_, ?_, ?_⟩ <;> (omega)
  obtain ⟨c_x0, c_x1, c_x2, c_a0, c_a1, c_a2, c_a3, c_a4, c_a5, c_b0, c_b1, c_b2, c_b3, c_b4, c_b5, c_k0, c_k1⟩ := all_c
  try clear all_c
  obtain ⟨z_x, z_a, z_b, z_k⟩ := all_z
  try clear all_z
  have hV1 : Below w.heap.size w v1 := by (repeat (first | with_reducible (first | exact Below.refl _ _ | assumption | exact Hid.out (by assumption) | refine Below.alloc ?_ ?_ _ | refine Below.setCell ?_ ?_ _ | refine below_drewN ?_ _ | refine Below.drew ?_ | refine below_via (by assumption) ?_ ?_) | (first | (with_reducible assumption) | omega | (simp only [szW] <;> omega) | (simp <;> omega))))
  go_wp2_with fail
  refine (G2.out _).mono ?_
  rintro e v2 ⟨rfl, hv2⟩
  have hz_v2 := hv2.size
  try simp only [World.size_alloc, World.size_setCell] at hz_v2
  have all_c : v2.cell? ⟨w.heap.size, 0, none⟩ = some (.int .i64 l) ∧ v2.cell? ⟨w.heap.size, 1, none⟩ = some (.slice ma lm mc) ∧ v2.cell? ⟨w.heap.size, 2, none⟩ = some (.slice ica li icc) ∧ v2.cell? ⟨w.heap.size + 1, 0, none⟩ = some (.int .i64 aseg) ∧ v2.cell? ⟨w.heap.size + 1, 1, none⟩ = some (.slice awa alw awc) ∧ v2.cell? ⟨w.heap.size + 1, 2, none⟩ = some (.slice aka alk akc) ∧ v2.cell? ⟨w.heap.size + 1, 3, none⟩ = some (.slice ava alv avc) ∧ v2.cell? ⟨w.heap.size + 1, 4, none⟩ = some (.slice aca alc acc) ∧ v2.cell? ⟨w.heap.size + 1, 5, none⟩ = some (.int .u64 alaid) ∧ v2.cell? ⟨w.heap.size + 1 + 1, 0, none⟩ = some (.int .i64 bseg) ∧ v2.cell? ⟨w.heap.size + 1 + 1, 1, none⟩ = some (.slice bwa blw bwc) ∧ v2.cell? ⟨w.heap.size + 1 + 1, 2, none⟩ = some (.slice bka blk bkc) ∧ v2.cell? ⟨w.heap.size + 1 + 1, 3, none⟩ = some (.slice bva blv bvc) ∧ v2.cell? ⟨w.heap.size + 1 + 1, 4, none⟩ = some (.slice bca blc bcc) ∧ v2.cell? ⟨w.heap.size + 1 + 1, 5, none⟩ = some (.int .u64 blaid) ∧ v2.cell? ⟨w.heap.size + 1 + 1 + 1, 0, none⟩ = some (.int .i64 x0) ∧ v2.cell? ⟨w.heap.size + 1 + 1 + 1, 1, none⟩ = some (.int .i64 x1) := by refine ⟨?_, ?_, ?_, ?_, ?_, ?_, ?_, ?_, ?_, ?_, ?_, ?_, ?_, ?_, ?_, ?_, ?_⟩ <;> (refine (hv2.cell ?_).trans ?_ <;> first | (first | (with_reducible assumption) | omega | (simp only [szW] <;> omega) | (simp <;> omega)) | (first | (with_reducible assumption) | ((try simp (disch := first | omega | (simp only [szW] <;> omega) | fail) only [ceW]) <;> first | (with_reducible assumption) | rfl)))
  have all_z : w.heap.size < v2.heap.size ∧ w.heap.size + 1 < v2.heap.size ∧ w.heap.size + 1 + 1 < v2.heap.size ∧ w.heap.size + 1 + 1 + 1 < v2.heap.size := by refine ⟨?_, ?_, ?_, ?_⟩ <;> (omega)
  clear c_x0 c_x1 c_x2 c_a0 c_a1 c_a2 c_a3 c_a4 c_a5 c_b0 c_b1 c_b2 c_b3 c_b4 c_b5 c_k0 c_k1 z_x z_a z_b z_k
  obtain ⟨c_x0, c_x1, c_x2, c_a0, c_a1, c_a2, c_a3, c_a4, c_a5, c_b0, c_b1, c_b2, c_b3, c_b4, c_b5, c_k0, c_k1⟩ := all_c
  try clear all_c
  obtain ⟨z_x, z_a, z_b, z_k⟩ := all_z
  try clear all_z
  have hV2 : Below w.heap.size w v2 := by (repeat (first | with_reducible (first | exact Below.refl _ _ | assumption | exact Hid.out (by assumption) | refine Below.alloc ?_ ?_ _ | refine Below.setCell ?_ ?_ _ | refine below_drewN ?_ _ | refine Below.drew ?_ | refine below_via (by assumption) ?_ ?_) | (first | (with_reducible assumption) | omega | (simp only [szW] <;> omega) | (simp <;> omega))))
  go_wp2
  go_ret
  exact ⟨rfl, hV2⟩

theorem MTl_great3 (l : Int) (ma ica : Option Addr) (mc icc lm li : Nat) (aseg : Int) (awa aka ava aca : Option Addr) (awc akc avc acc alw alk alv alc : Nat) (alaid : Int) (bseg : Int) (bwa bka bva bca : Option Addr) (bwc bkc bvc bcc blw blk blv blc : Nat) (blaid : Int) (x0 x1 : Int) (w : World) (G1 : Hid (∀ W, Calls Try.prog 9 #[.agg #[.int .i64 l, .slice ma lm mc, .slice ica li icc]] W (AnsB W (.bool false)))) (G2 : Hid (∀ W, Calls Try.prog 10 #[.agg #[.int .i64 aseg, .slice awa alw awc, .slice aka alk akc, .slice ava alv avc, .slice aca alc acc, .int .u64 alaid], .int .i64 600] W (AnsB W (.bool false)))) (G3 : Hid (∀ W, Calls Try.prog 10 #[.agg #[.int .i64 bseg, .slice bwa blw bwc, .slice bka blk bkc, .slice bva blv bvc, .slice bca blc bcc, .int .u64 blaid], .int .i64 600] W (AnsB W (.bool true)))) :
    Calls Try.prog 3 #[.agg #[.int .i64 l, .slice ma lm mc, .slice ica li icc], .agg #[.int .i64 aseg, .slice awa alw awc, .slice aka alk akc, .slice ava alv avc, .slice aca alc acc, .int .u64 alaid], .agg #[.int .i64 bseg, .slice bwa blw bwc, .slice bka blk bkc, .slice bva blv bvc, .slice bca blc bcc, .int .u64 blaid], .agg #[.int .i64 x0, .int .i64 x1]] w (AnsB w (.bool true)) := by
  go_enter Try.func3, Try.ntmps3
  go_wp2_with fail
  refine (G1.out _).mono ?_
  rintro e v1 ⟨rfl, hv1⟩
  have hz_v1 := hv1.size
  try simp only [World.size_alloc, World.size_setCell] at hz_v1
  have all_c : v1.cell? ⟨w.heap.size, 0, none⟩ = some (.int .i64 l) ∧ v1.cell? ⟨w.heap.size, 1, none⟩ = some (.slice ma lm mc) ∧ v1.cell? ⟨w.heap.size, 2, none⟩ = some (.slice ica li icc) ∧ v1.cell? ⟨w.heap.size + 1, 0, none⟩ = some (.int .i64 aseg) ∧ v1.cell? ⟨w.heap.size + 1, 1, none⟩ = some (.slice awa alw awc) ∧ v1.cell? ⟨w.heap.size + 1, 2, none⟩ = some (.slice aka alk akc) ∧ v1.cell? ⟨w.heap.size + 1, 3, none⟩ = some (.slice ava alv avc) ∧ v1.cell? ⟨w.heap.size + 1, 4, none⟩ = some (.slice aca alc acc) ∧ v1.cell? ⟨w.heap.size + 1, 5, none⟩ = some (.int .u64 alaid) ∧ v1.cell? ⟨w.heap.size + 1 + 1, 0, none⟩ = some (.int .i64 bseg) ∧ v1.cell? ⟨w.heap.size + 1 + 1, 1, none⟩ = some (.slice bwa blw bwc) ∧ v1.cell? ⟨w.heap.size + 1 + 1, 2, none⟩ = some (.slice bka blk bkc) ∧ v1.cell? ⟨w.heap.size + 1 + 1, 3, none⟩ = some (.slice bva blv bvc) ∧ v1.cell? ⟨w.heap.size + 1 + 1, 4, none⟩ = some (.slice bca blc bcc) ∧ v1.cell? ⟨w.heap.size + 1 + 1, 5, none⟩ = some (.int .u64 blaid) ∧ v1.cell? ⟨w.heap.size + 1 + 1 + 1, 0, none⟩ = some (.int .i64 x0) ∧ v1.cell? ⟨w.heap.size + 1 + 1 + 1, 1, none⟩ = some (.int .i64 x1) := by refine ⟨?_, ?_, ?_, ?_, ?_, ?_, ?_, ?_, ?_, ?_, ?_, ?_, ?_, ?_, ?_, ?_, ?_⟩ <;> (refine (hv1.cell ?_).trans ?_ <;> first | (first | (with_reducible assumption) | omega | (simp only [szW] <;> omega) | (simp <;> omega)) | (first | (with_reducible assumption) | ((try simp (disch := first | omega | (simp only [szW] <;> omega) | fail) only [ceW]) <;> first | (with_reducible assumption) | rfl)))
  have all_z : w.heap.size < v1.heap.size ∧ w.heap.size + 1 < v1.heap.size ∧ w.heap.size + 1 + 1 < v1.heap.size ∧ w.heap.size + 1 + 1 + 1 < v1.heap.size := by refine ⟨?_, ?_, ?_, ?_⟩ <;> (omega)
  obtain ⟨c_x0, c_x1, c_x2, c_a0, c_a1, c_a2, c_a3, c_a4, c_a5, c_b0, c_b1, c_b2, c_b3, c_b4, c_b5, c_k0, c_k1⟩ := all_c
  try clear all_c
  obtain ⟨z_x, z_a, z_b, z_k⟩ := all_z
  try clear all_z
  have hV1 : Below w.heap.size w v1 := by (repeat (first | with_reducible (first | exact Below.refl _ _ | assumption | exact Hid.out (by assumption) | refine Below.alloc ?_ ?_ _ | refine Below.setCell ?_ ?_ _ | refine below_drewN ?_ _ | refine Below.drew ?_ | refine below_via (by assumption) ?_ ?_) | (first | (with_reducible assumption) | omega | (simp only [szW] <;> omega) | (simp <;> omega))))
  go_wp2_with fail
  refine (G2.out _).mono ?_
  rintro e v2 ⟨rfl, hv2⟩
  have hz_v2 := hv2.size
  try simp only [World.size_alloc, World.size_setCell] at hz_v2
  have all_c : v2.cell? ⟨w.heap.size, 0, none⟩ = some (.int .i64 l) ∧ v2.cell? ⟨w.heap.size, 1, none⟩ = some (.slice ma lm mc) ∧ v2.cell? ⟨w.heap.size, 2, none⟩ = some (.slice ica li icc) ∧ v2.cell? ⟨w.heap.size + 1, 0, none⟩ = some (.int .i64 aseg) ∧ v2.cell? ⟨w.heap.size + 1, 1, none⟩ = some (.slice awa alw awc) ∧ v2.cell? ⟨w.heap.size + 1, 2, none⟩ = some (.slice aka alk akc) ∧ v2.cell? ⟨w.heap.size + 1, 3, none⟩ = some (.slice ava alv avc) ∧ v2.cell? ⟨w.heap.size + 1, 4, none⟩ = some (.slice aca alc acc) ∧ v2.cell? ⟨w.heap.size + 1, 5, none⟩ = some (.int .u64 alaid) ∧ v2.cell? ⟨w.heap.size + 1 + 1, 0, none⟩ = some (.int .i64 bseg) ∧ v2.cell? ⟨w.heap.size + 1 + 1, 1, none⟩ = some (.slice bwa blw bwc) ∧ v2.cell? ⟨w.heap.size + 1 + 1, 2, none⟩ = some (.slice bka blk bkc) ∧ v2.cell? ⟨w.heap.size + 1 + 1, 3, none⟩ = some (.slice bva blv bvc) ∧ v2.cell? ⟨w.heap.size + 1 + 1, 4, none⟩ = some (.slice bca blc bcc) ∧ v2.cell? ⟨w.heap.size + 1 + 1, 5, none⟩ = some (.int .u64 blaid) ∧ v2.cell? ⟨w.heap.size + 1 + 1 + 1, 0, none⟩ = some (.int .i64 x0) ∧ v2.cell? ⟨w.heap.size + 1 + 1 + 1, 1, none⟩ = some (.int .i64 x1) := by refine ⟨?_, ?_, ?_, ?_, ?_, ?_, ?_, ?_, ?_, ?_, ?_, ?_, ?_, ?_, ?_, ?_, ?_⟩ <;> (refine (hv2.cell ?_).trans ?_ <;> first | (first | (with_reducible assumption) | omega | (simp only [szW] <;> omega) | (simp <;> omega)) | (first | (with_reducible assumption) | ((try simp (disch := first | omega | (simp only [szW] <;> omega) | fail) only [ceW]) <;> first | (with_reducible assumption) | rfl)))
  have all_z : w.heap.size < v2.heap.size ∧ w.heap.size + 1 < v2.heap.size ∧ w.heap.size + 1 + 1 < v2.heap.size ∧ w.heap.size + 1 + 1 + 1 < v2.heap.size := by refine ⟨?_, ?_, ?_, ?_⟩ <;> (omega)
  clear c_x0 c_x1 c_x2 c_a0 c_a1 c_a2 c_a3 c_a4 c_a5 c_b0 c_b1 c_b2 c_b3 c_b4 c_b5 c_k0 c_k1 z_x z_a z_b z_k
  obtain ⟨c_x0, c_x1, c_x2, c_a0, c_a1, c_a2, c_a3, c_a4, c_a5, c_b0, c_b1, c_b2, c_b3, c_b4, c_b5, c_k0, c_k1⟩ := all_c
  try clear all_c
  obtain ⟨z_x, z_a, z_b, z_k⟩ := all_z
  try clear all_z
  have hV2 : Below w.heap.size w v2 := by (repeat (first | with_reducible (first | exact Below.refl _ _ | assumption | exact Hid.out (by assumption) | refine Below.alloc ?_ ?_ _ | refine Below.setCell ?_ ?_ _ | refine below_drewN ?_ _ | refine Below.drew ?_ | refine below_via (by assumption) ?_ ?_) | (first | (with_reducible assumption) | omega | (simp only [szW] <;> omega) | (simp <;> omega))))
  go_wp2_with fail
  refine (G3.out _).mono ?_
  rintro e v3 ⟨rfl, hv3⟩
  have hz_v3 := hv3.size
  try simp only [World.size_alloc, World.size_setCell] at hz_v3
  have all_c : v3.cell? ⟨w.heap.size, 0, none⟩ = some (.int .i64 l) ∧ v3.cell? ⟨w.heap.size, 1, none⟩ = some (.slice ma lm mc) ∧ v3.cell? ⟨w.heap.size, 2, none⟩ = some (.slice ica li icc) ∧ v3.cell? ⟨w.heap.size + 1, 0, none⟩ = some (.int .i64 aseg) ∧ v3.cell? ⟨w.heap.size + 1, 1, none⟩ = some (.slice awa alw awc) ∧ v3.cell? ⟨w.heap.size + 1, 2, none⟩ = some (.slice aka alk akc) ∧ v3.cell? ⟨w.heap.size + 1, 3, none⟩ = some (.slice ava alv avc) ∧ v3.cell? ⟨w.heap.size + 1, 4, none⟩ = some (.slice aca alc acc) ∧ v3.cell? ⟨w.heap.size + 1, 5, none⟩ = some (.int .u64 alaid) ∧ v3.cell? ⟨w.heap.size + 1 + 1, 0, none⟩ = some (.int .i64 bseg) ∧ v3.cell? ⟨w.heap.size + 1 + 1, 1, none⟩ = some (.slice bwa blw bwc) ∧ v3.cell? ⟨w.heap.size + 1 + 1, 2, none⟩ = some (.slice bka blk bkc) ∧ v3.cell? ⟨w.heap.size + 1 + 1, 3, none⟩ = some (.slice bva blv bvc) ∧ v3.cell? ⟨w.heap.size + 1 + 1, 4, none⟩ = some (.slice bca blc bcc) ∧ v3.cell? ⟨w.heap.size + 1 + 1, 5, none⟩ = some (.int .u64 blaid) ∧ v3.cell? ⟨w.heap.size + 1 + 1 + 1, 0, none⟩ = some (.int .i64 x0) ∧ v3.cell? ⟨w.heap.size + 1 + 1 + 1, 1, none⟩ = some (.int .i64 x1) := by refine ⟨?_, ?_, ?_, ?_, ?_, ?_, ?_, ?_, ?_, ?_, ?_, ?_, ?_, ?_, ?_, ?_, ?_⟩ <;> (refine (hv3.cell ?_).trans ?_ <;> first | (first | (with_reducible assumption) | omega | (simp only [szW] <;> omega) | (simp <;> omega)) | (first | (with_reducible assumption) | ((try simp (disch := first | omega | (simp only [szW] <;> omega) | fail) only [ceW]) <;> first | (with_reducible assumption) | rfl)))
  have all_z : w.heap.size < v3.heap.size ∧ w.heap.size + 1 < v3.heap.size ∧ w.heap.size + 1 + 1 < v3.heap.size ∧ w.heap.size + 1 + 1 + 1 < v3.heap.size := by refine ⟨?_, ?_, ?_, ?_⟩ <;> (omega)
  clear c_x0 c_x1 c_x2 c_a0 c_a1 c_a2 c_a3 c_a4 c_a5 c_b0 c_b1 c_b2 c_b3 c_b4 c_b5 c_k0 c_k1 z_x z_a z_b z_k
  obtain ⟨c_x0, c_x1, c_x2, c_a0, c_a1, c_a2, c_a3, c_a4, c_a5, c_b0, c_b1, c_b2, c_b3, c_b4, c_b5, c_k0, c_k1⟩ := all_c
  try clear all_c
  obtain ⟨z_x, z_a, z_b, z_k⟩ := all_z
  try clear all_z
  have hV3 : Below w.heap.size w v3 := by (repeat (first | with_reducible (first | exact Below.refl _ _ | assumption | exact Hid.out (by assumption) | refine Below.alloc ?_ ?_ _ | refine Below.setCell ?_ ?_ _ | refine below_drewN ?_ _ | refine Below.drew ?_ | refine below_via (by assumption) ?_ ?_) | (first | (with_reducible assumption) | omega | (simp only [szW] <;> omega) | (simp <;> omega))))
  go_wp2
  go_ret
  exact ⟨rfl, hV3⟩

set_option maxRecDepth 100000 in
set_option maxHeartbeats 8000000 in
theorem MTl_in (l : Int) (ma ica : Option Addr) (mc icc : Nat) (ms cs : List Int) (c d : SlC) (awa aka ava aca bwa bka bva bca : Option Addr) (awc akc avc acc bwc bkc bvc bcc : Nat) (x0 x1 : Int) (w : World) (bL bE tF tT tE : Int) (bm bc : List Int) (hul : bm.length ≤ 100000 ∧ bc.length ≤ 100000) (HUC : Hid (U64s c.ws)) (HUD : Hid (U64s d.ws)) (G1 : Hid (∀ W, Calls Try.prog 9 #[.agg #[.int .i64 l, .slice ma ms.length mc, .slice ica cs.length icc]] W (AnsB W (.bool false)))) (G2 : Hid (∀ W, Calls Try.prog 10 #[.agg #[.int .i64 c.seg, .slice awa c.ws.length awc, .slice aka c.ks.length akc, .slice ava c.vs.length avc, .slice aca c.cs.length acc, .int .u64 c.laid], .int .i64 600] W (AnsB W (.bool false)))) (G3 : Hid (∀ W, Calls Try.prog 10 #[.agg #[.int .i64 d.seg, .slice bwa d.ws.length bwc, .slice bka d.ks.length bkc, .slice bva d.vs.length bvc, .slice bca d.cs.length bcc, .int .u64 d.laid], .int .i64 600] W (AnsB W (.bool false))))
    (T18 : Hid (∀ W, Below w.heap.size w W → Calls Try.prog 11 #[.agg #[.int .i64 l, .slice ma ms.length mc, .slice ica cs.length icc]] W (FreshIx W l ms cs)))
    (TA : Hid (∀ W, Below w.heap.size w W → Calls Try.prog 12 #[.agg #[.int .i64 c.seg, .slice awa c.ws.length awc, .slice aka c.ks.length akc, .slice ava c.vs.length avc, .slice aca c.cs.length acc, .int .u64 c.laid]] W (FreshSl W c)))
    (TB : Hid (∀ W, Below w.heap.size w W → Calls Try.prog 12 #[.agg #[.int .i64 d.seg, .slice bwa d.ws.length bwc, .slice bka d.ks.length bkc, .slice bva d.vs.length bvc, .slice bca d.cs.length bcc, .int .u64 d.laid]] W (FreshSl W d)))
    (TU : Hid (∀ (a2 b2 : SlA) W, SlIn W c a2 → SlIn W d b2 → c.ks.length ≤ a2.kc → c.vs.length ≤ a2.vc → d.ks.length ≤ b2.kc → d.vs.length ≤ b2.vc → Calls Try.prog 13 #[slV c a2, slV d b2] W (AnsB W (.tuple #[.int .i64 tF, .int .i64 tT, .int .i64 tE]))))
    (TR : Hid (∀ W, Below w.heap.size w W → Calls Try.prog 14 #[.agg #[.int .i64 c.seg, .slice awa c.ws.length awc, .slice aka c.ks.length akc, .slice ava c.vs.length avc, .slice aca c.cs.length acc, .int .u64 c.laid], .agg #[.int .i64 d.seg, .slice bwa d.ws.length bwc, .slice bka d.ks.length bkc, .slice bva d.vs.length bvc, .slice bca d.cs.length bcc, .int .u64 d.laid]] W (AnsB W (.tuple #[.int .i64 tF, .int .i64 tT, .int .i64 tE]))))
    (WN : Hid (∀ xa ya xc yc (b2 : SlA) W, IsRow .i64 W xa ms → IsRow .i64 W ya cs → SlIn W d b2 → Calls Try.prog 15 #[ixV l xa ms.length xc ya cs.length yc, slV d b2, .int .i64 x0, .int .i64 x1] W (FreshIx2 W bL bm bc (.int .i64 bE))))
    (FR : Hid (∀ W, Below w.heap.size w W → Calls Try.prog 16 #[.agg #[.int .i64 l, .slice ma ms.length mc, .slice ica cs.length icc], .agg #[.int .i64 d.seg, .slice bwa d.ws.length bwc, .slice bka d.ks.length bkc, .slice bva d.vs.length bvc, .slice bca d.cs.length bcc, .int .u64 d.laid], .int .i64 x0, .int .i64 x1] W (FreshIx2 W bL bm bc (.int .i64 bE))))
    (SI : Hid (∀ xa ya xc yc W, Below w.heap.size w W → IsRow .i64 W xa ms → IsRow .i64 W ya cs → Calls Try.prog 17 #[ixV l xa ms.length xc ya cs.length yc, .agg #[.int .i64 l, .slice ma ms.length mc, .slice ica cs.length icc]] W (AnsB W (.bool true))))
    (SC : Hid (∀ (a2 : SlA) W, Below w.heap.size w W → SlIn W c a2 → Calls Try.prog 19 #[slV c a2, .agg #[.int .i64 c.seg, .slice awa c.ws.length awc, .slice aka c.ks.length akc, .slice ava c.vs.length avc, .slice aca c.cs.length acc, .int .u64 c.laid]] W (AnsB W (.bool true))))
    (SD : Hid (∀ (a2 : SlA) W, Below w.heap.size w W → SlIn W d a2 → Calls Try.prog 19 #[slV d a2, .agg #[.int .i64 d.seg, .slice bwa d.ws.length bwc, .slice bka d.ks.length bkc, .slice bva d.vs.length bvc, .slice bca d.cs.length bcc, .int .u64 d.laid]] W (AnsB W (.bool true))))
    (SB : Hid (∀ xa xb ya yb xc xd yc yd W, IsRow .i64 W xa bm → IsRow .i64 W xb bc → IsRow .i64 W ya bm → IsRow .i64 W yb bc → Calls Try.prog 17 #[ixV bL xa bm.length xc xb bc.length xd, ixV bL ya bm.length yc yb bc.length yd] W (AnsB W (.bool true)))) :
    Calls Try.prog 3 #[.agg #[.int .i64 l, .slice ma ms.length mc, .slice ica cs.length icc], .agg #[.int .i64 c.seg, .slice awa c.ws.length awc, .slice aka c.ks.length akc, .slice ava c.vs.length avc, .slice aca c.cs.length acc, .int .u64 c.laid], .agg #[.int .i64 d.seg, .slice bwa d.ws.length bwc, .slice bka d.ks.length bkc, .slice bva d.vs.length bvc, .slice bca d.cs.length bcc, .int .u64 d.laid], .agg #[.int .i64 x0, .int .i64 x1]] w (AnsB w (.bool true)) := by
  have gE : (bE == bE) = true := by simp
  have gF : (tF == tF) = true := by simp
  have gT : (tT == tT) = true := by simp
  have gG : (tE == tE) = true := by simp
  have HUL := Lib.hid hul
  clear hul
  go_enter Try.func3, Try.ntmps3
  go_wp2_with fail
  refine (G1.out _).mono ?_
  rintro e w1 ⟨rfl, hb1⟩
  have hz_w1 := hb1.size
  try simp only [World.size_alloc, World.size_setCell] at hz_w1
  have all_c : w1.cell? ⟨w.heap.size, 0, none⟩ = some (.int .i64 l) ∧ w1.cell? ⟨w.heap.size, 1, none⟩ = some (.slice ma ms.length mc) ∧ w1.cell? ⟨w.heap.size, 2, none⟩ = some (.slice ica cs.length icc) ∧ w1.cell? ⟨w.heap.size + 1, 0, none⟩ = some (.int .i64 c.seg) ∧ w1.cell? ⟨w.heap.size + 1, 1, none⟩ = some (.slice awa c.ws.length awc) ∧ w1.cell? ⟨w.heap.size + 1, 2, none⟩ = some (.slice aka c.ks.length akc) ∧ w1.cell? ⟨w.heap.size + 1, 3, none⟩ = some (.slice ava c.vs.length avc) ∧ w1.cell? ⟨w.heap.size + 1, 4, none⟩ = some (.slice aca c.cs.length acc) ∧ w1.cell? ⟨w.heap.size + 1, 5, none⟩ = some (.int .u64 c.laid) ∧ w1.cell? ⟨w.heap.size + 1 + 1, 0, none⟩ = some (.int .i64 d.seg) ∧ w1.cell? ⟨w.heap.size + 1 + 1, 1, none⟩ = some (.slice bwa d.ws.length bwc) ∧ w1.cell? ⟨w.heap.size + 1 + 1, 2, none⟩ = some (.slice bka d.ks.length bkc) ∧ w1.cell? ⟨w.heap.size + 1 + 1, 3, none⟩ = some (.slice bva d.vs.length bvc) ∧ w1.cell? ⟨w.heap.size + 1 + 1, 4, none⟩ = some (.slice bca d.cs.length bcc) ∧ w1.cell? ⟨w.heap.size + 1 + 1, 5, none⟩ = some (.int .u64 d.laid) ∧ w1.cell? ⟨w.heap.size + 1 + 1 + 1, 0, none⟩ = some (.int .i64 x0) ∧ w1.cell? ⟨w.heap.size + 1 + 1 + 1, 1, none⟩ = some (.int .i64 x1) := by refine ⟨?_, ?_, ?_, ?_, ?_, ?_, ?_, ?_, ?_, ?_, ?_, ?_, ?_, ?_, ?_, ?_, ?_⟩ <;> (refine (hb1.cell ?_).trans ?_ <;> first | (first | (with_reducible assumption) | omega | (simp only [szW] <;> omega) | (simp <;> omega)) | (first | (with_reducible assumption) | ((try simp (disch := first | omega | (simp only [szW] <;> omega) | fail) only [ceW]) <;> first | (with_reducible assumption) | rfl)))
  have all_z : w.heap.size < w1.heap.size ∧ w.heap.size + 1 < w1.heap.size ∧ w.heap.size + 1 + 1 < w1.heap.size ∧ w.heap.size + 1 + 1 + 1 < w1.heap.size := by refine ⟨?_, ?_, ?_, ?_⟩ <;> (omega)
  obtain ⟨c_x0, c_x1, c_x2, c_a0, c_a1, c_a2, c_a3, c_a4, c_a5, c_b0, c_b1, c_b2, c_b3, c_b4, c_b5, c_k0, c_k1⟩ := all_c
  try clear all_c
  obtain ⟨z_x, z_a, z_b, z_k⟩ := all_z
  try clear all_z
  have hB1 : Below w.heap.size w w1 := by (repeat (first | with_reducible (first | exact Below.refl _ _ | assumption | exact Hid.out (by assumption) | refine Below.alloc ?_ ?_ _ | refine Below.setCell ?_ ?_ _ | refine below_drewN ?_ _ | refine Below.drew ?_ | refine below_via (by assumption) ?_ ?_) | (first | (with_reducible assumption) | omega | (simp only [szW] <;> omega) | (simp <;> omega))))
  go_wp2_with fail
  refine (G2.out _).mono ?_
  rintro e w2 ⟨rfl, hb2⟩
  have hz_w2 := hb2.size
  try simp only [World.size_alloc, World.size_setCell] at hz_w2
  have all_c : w2.cell? ⟨w.heap.size, 0, none⟩ = some (.int .i64 l) ∧ w2.cell? ⟨w.heap.size, 1, none⟩ = some (.slice ma ms.length mc) ∧ w2.cell? ⟨w.heap.size, 2, none⟩ = some (.slice ica cs.length icc) ∧ w2.cell? ⟨w.heap.size + 1, 0, none⟩ = some (.int .i64 c.seg) ∧ w2.cell? ⟨w.heap.size + 1, 1, none⟩ = some (.slice awa c.ws.length awc) ∧ w2.cell? ⟨w.heap.size + 1, 2, none⟩ = some (.slice aka c.ks.length akc) ∧ w2.cell? ⟨w.heap.size + 1, 3, none⟩ = some (.slice ava c.vs.length avc) ∧ w2.cell? ⟨w.heap.size + 1, 4, none⟩ = some (.slice aca c.cs.length acc) ∧ w2.cell? ⟨w.heap.size + 1, 5, none⟩ = some (.int .u64 c.laid) ∧ w2.cell? ⟨w.heap.size + 1 + 1, 0, none⟩ = some (.int .i64 d.seg) ∧ w2.cell? ⟨w.heap.size + 1 + 1, 1, none⟩ = some (.slice bwa d.ws.length bwc) ∧ w2.cell? ⟨w.heap.size + 1 + 1, 2, none⟩ = some (.slice bka d.ks.length bkc) ∧ w2.cell? ⟨w.heap.size + 1 + 1, 3, none⟩ = some (.slice bva d.vs.length bvc) ∧ w2.cell? ⟨w.heap.size + 1 + 1, 4, none⟩ = some (.slice bca d.cs.length bcc) ∧ w2.cell? ⟨w.heap.size + 1 + 1, 5, none⟩ = some (.int .u64 d.laid) ∧ w2.cell? ⟨w.heap.size + 1 + 1 + 1, 0, none⟩ = some (.int .i64 x0) ∧ w2.cell? ⟨w.heap.size + 1 + 1 + 1, 1, none⟩ = some (.int .i64 x1) := by refine ⟨?_, ?_, ?_, ?_, ?_, ?_, ?_, ?_, ?_, ?_, ?_, ?_, ?_, ?_, ?_, ?_, ?_⟩ <;> (refine (hb2.cell ?_).trans ?_ <;> first | (first | (with_reducible assumption) | omega | (simp only [szW] <;> omega) | (simp <;> omega)) | (first | (with_reducible assumption) | ((try simp (disch := first | omega | (simp only [szW] <;> omega) | fail) only [ceW]) <;> first | (with_reducible assumption) | rfl)))
  have all_z : w.heap.size < w2.heap.size ∧ w.heap.size + 1 < w2.heap.size ∧ w.heap.size + 1 + 1 < w2.heap.size ∧ w.heap.size + 1 + 1 + 1 < w2.heap.size := by refine ⟨?_, ?_, ?_, ?_⟩ <;> (omega)
  clear c_x0 c_x1 c_x2 c_a0 c_a1 c_a2 c_a3 c_a4 c_a5 c_b0 c_b1 c_b2 c_b3 c_b4 c_b5 c_k0 c_k1 z_x z_a z_b z_k
  obtain ⟨c_x0, c_x1, c_x2, c_a0, c_a1, c_a2, c_a3, c_a4, c_a5, c_b0, c_b1, c_b2, c_b3, c_b4, c_b5, c_k0, c_k1⟩ := all_c
  try clear all_c
  obtain ⟨z_x, z_a, z_b, z_k⟩ := all_z
  try clear all_z
  have hB2 : Below w.heap.size w w2 := by (repeat (first | with_reducible (first | exact Below.refl _ _ | assumption | exact Hid.out (by assumption) | refine Below.alloc ?_ ?_ _ | refine Below.setCell ?_ ?_ _ | refine below_drewN ?_ _ | refine Below.drew ?_ | refine below_via (by assumption) ?_ ?_) | (first | (with_reducible assumption) | omega | (simp only [szW] <;> omega) | (simp <;> omega))))
  go_wp2_with fail
  refine (G3.out _).mono ?_
  rintro e wz ⟨rfl, hbz⟩
  have hz_wz := hbz.size
  try simp only [World.size_alloc, World.size_setCell] at hz_wz
  have all_c : wz.cell? ⟨w.heap.size, 0, none⟩ = some (.int .i64 l) ∧ wz.cell? ⟨w.heap.size, 1, none⟩ = some (.slice ma ms.length mc) ∧ wz.cell? ⟨w.heap.size, 2, none⟩ = some (.slice ica cs.length icc) ∧ wz.cell? ⟨w.heap.size + 1, 0, none⟩ = some (.int .i64 c.seg) ∧ wz.cell? ⟨w.heap.size + 1, 1, none⟩ = some (.slice awa c.ws.length awc) ∧ wz.cell? ⟨w.heap.size + 1, 2, none⟩ = some (.slice aka c.ks.length akc) ∧ wz.cell? ⟨w.heap.size + 1, 3, none⟩ = some (.slice ava c.vs.length avc) ∧ wz.cell? ⟨w.heap.size + 1, 4, none⟩ = some (.slice aca c.cs.length acc) ∧ wz.cell? ⟨w.heap.size + 1, 5, none⟩ = some (.int .u64 c.laid) ∧ wz.cell? ⟨w.heap.size + 1 + 1, 0, none⟩ = some (.int .i64 d.seg) ∧ wz.cell? ⟨w.heap.size + 1 + 1, 1, none⟩ = some (.slice bwa d.ws.length bwc) ∧ wz.cell? ⟨w.heap.size + 1 + 1, 2, none⟩ = some (.slice bka d.ks.length bkc) ∧ wz.cell? ⟨w.heap.size + 1 + 1, 3, none⟩ = some (.slice bva d.vs.length bvc) ∧ wz.cell? ⟨w.heap.size + 1 + 1, 4, none⟩ = some (.slice bca d.cs.length bcc) ∧ wz.cell? ⟨w.heap.size + 1 + 1, 5, none⟩ = some (.int .u64 d.laid) ∧ wz.cell? ⟨w.heap.size + 1 + 1 + 1, 0, none⟩ = some (.int .i64 x0) ∧ wz.cell? ⟨w.heap.size + 1 + 1 + 1, 1, none⟩ = some (.int .i64 x1) := by refine ⟨?_, ?_, ?_, ?_, ?_, ?_, ?_, ?_, ?_, ?_, ?_, ?_, ?_, ?_, ?_, ?_, ?_⟩ <;> (refine (hbz.cell ?_).trans ?_ <;> first | (first | (with_reducible assumption) | omega | (simp only [szW] <;> omega) | (simp <;> omega)) | (first | (with_reducible assumption) | ((try simp (disch := first | omega | (simp only [szW] <;> omega) | fail) only [ceW]) <;> first | (with_reducible assumption) | rfl)))
  have all_z : w.heap.size < wz.heap.size ∧ w.heap.size + 1 < wz.heap.size ∧ w.heap.size + 1 + 1 < wz.heap.size ∧ w.heap.size + 1 + 1 + 1 < wz.heap.size := by refine ⟨?_, ?_, ?_, ?_⟩ <;> (omega)
  clear c_x0 c_x1 c_x2 c_a0 c_a1 c_a2 c_a3 c_a4 c_a5 c_b0 c_b1 c_b2 c_b3 c_b4 c_b5 c_k0 c_k1 z_x z_a z_b z_k
  obtain ⟨c_x0, c_x1, c_x2, c_a0, c_a1, c_a2, c_a3, c_a4, c_a5, c_b0, c_b1, c_b2, c_b3, c_b4, c_b5, c_k0, c_k1⟩ := all_c
  try clear all_c
  obtain ⟨z_x, z_a, z_b, z_k⟩ := all_z
  try clear all_z
  have HS : Hid (Below w.heap.size w wz) := Lib.hid (by (repeat (first | with_reducible (first | exact Below.refl _ _ | assumption | exact Hid.out (by assumption) | refine Below.alloc ?_ ?_ _ | refine Below.setCell ?_ ?_ _ | refine below_drewN ?_ _ | refine Below.drew ?_ | refine below_via (by assumption) ?_ ?_) | (first | (with_reducible assumption) | omega | (simp only [szW] <;> omega) | (simp <;> omega)))))
  clear hbz hb1 hB1 hb2 hB2
  go_upto_region 3 with (fail)
  refine wp_region_two 9 (by kernel_rfl) (N := 114) rfl (by kernel_rfl) (by kernel_rfl) (by decide) (fun w' => Below wz.heap.size wz w') RB (factRAt [.is (.agg #[.int .i64 l, .slice ma ms.length mc, .slice ica cs.length icc]), .ix wz.heap.size l ms cs, .is (.agg #[.int .i64 c.seg, .slice awa c.ws.length awc, .slice aka c.ks.length akc, .slice ava c.vs.length avc, .slice aca c.cs.length acc, .int .u64 c.laid]), .sl wz.heap.size c, .is (.agg #[.int .i64 d.seg, .slice bwa d.ws.length bwc, .slice bka d.ks.length bkc, .slice bva d.vs.length bvc, .slice bca d.cs.length bcc, .int .u64 d.laid]), .sl wz.heap.size d, .box wz.heap.size 25 3, .box wz.heap.size 29 6, .box wz.heap.size 29 6]) (BoxR 7 8) (factRAt_stays _) (Below.refl _ _).drew ?steps ?fin
  case steps =>
    refine ⟨?o0, ?o1, ?o2, ?o3, ?o4, ?o5, ?o6, ?o7, ?o8, trivial⟩
    case o0 =>
      intro u a w' ev hJ hd Dn hD K hK
      have e4 : a.tmps.getD 4 undef = .pointer (some ⟨w.heap.size, 0, none⟩) := ev 4 (by decide)
      have g0 := (hJ.cell (p := ⟨w.heap.size, 0, none⟩) (by dsimp only; omega)).trans c_x0
      have g1 := (hJ.cell (p := ⟨w.heap.size, 1, none⟩) (by dsimp only; omega)).trans c_x1
      have g2 := (hJ.cell (p := ⟨w.heap.size, 2, none⟩) (by dsimp only; omega)).trans c_x2
      have HK := Lib.hid hK
      clear hK ev hd hD
      go_simp
      exact HK.out _ _ (fun h => by cases h) hJ rfl (fun j p _ _ => boxR_free (by decide) (by decide)) (Below.refl _ _)
    case o1 =>
      intro u a w' ev hJ hd Dn hD K hK
      have e33 : a.tmps.getD 33 undef = .agg #[.int .i64 l, .slice ma ms.length mc, .slice ica cs.length icc] := (ev 33 (by decide)).trans (hd 0 _ (by kernel_rfl) rfl)
      have HK := Lib.hid hK
      have HC := Lib.hid (T18.out w' (below_via hJ HS.out (by omega)))
      have hzJ := hJ.size
      clear hK ev hd hD
      go_simp
      refine HC.out.mono ?_
      rintro e w'' ⟨v, u', rfl, o1, o2, hb⟩
      exact HK.out _ _ (fun h => by cases h) (hJ.trans (hb.mono hzJ)) ⟨_, _, rfl, owns_base o1 hzJ, owns_base o2 hzJ⟩ (fun j p _ _ => boxR_free (by decide) (by decide)) hb
    case o2 =>
      intro u a w' ev hJ hd Dn hD K hK
      have e5 : a.tmps.getD 5 undef = .pointer (some ⟨w.heap.size + 1, 0, none⟩) := ev 5 (by decide)
      have g0 := (hJ.cell (p := ⟨w.heap.size + 1, 0, none⟩) (by dsimp only; omega)).trans c_a0
      have g1 := (hJ.cell (p := ⟨w.heap.size + 1, 1, none⟩) (by dsimp only; omega)).trans c_a1
      have g2 := (hJ.cell (p := ⟨w.heap.size + 1, 2, none⟩) (by dsimp only; omega)).trans c_a2
      have g3 := (hJ.cell (p := ⟨w.heap.size + 1, 3, none⟩) (by dsimp only; omega)).trans c_a3
      have g4 := (hJ.cell (p := ⟨w.heap.size + 1, 4, none⟩) (by dsimp only; omega)).trans c_a4
      have g5 := (hJ.cell (p := ⟨w.heap.size + 1, 5, none⟩) (by dsimp only; omega)).trans c_a5
      have HK := Lib.hid hK
      clear hK ev hd hD
      go_simp
      exact HK.out _ _ (fun h => by cases h) hJ rfl (fun j p _ _ => boxR_free (by decide) (by decide)) (Below.refl _ _)
    case o3 =>
      intro u a w' ev hJ hd Dn hD K hK
      have e35 : a.tmps.getD 35 undef = .agg #[.int .i64 c.seg, .slice awa c.ws.length awc, .slice aka c.ks.length akc, .slice ava c.vs.length avc, .slice aca c.cs.length acc, .int .u64 c.laid] := (ev 35 (by decide)).trans (hd 2 _ (by kernel_rfl) rfl)
      have HK := Lib.hid hK
      have HC := Lib.hid (TA.out w' (below_via hJ HS.out (by omega)))
      have hzJ := hJ.size
      clear hK ev hd hD
      go_simp
      refine HC.out.mono ?_
      rintro e w'' ⟨v1, v2, v3, v4, rfl, o1, o2, o3, o4, hb⟩
      exact HK.out _ _ (fun h => by cases h) (hJ.trans (hb.mono hzJ)) ⟨_, _, _, _, rfl, owns_base o1 hzJ, owns_base o2 hzJ, owns_base o3 hzJ, owns_base o4 hzJ⟩ (fun j p _ _ => boxR_free (by decide) (by decide)) hb
    case o4 =>
      intro u a w' ev hJ hd Dn hD K hK
      have e6 : a.tmps.getD 6 undef = .pointer (some ⟨w.heap.size + 1 + 1, 0, none⟩) := ev 6 (by decide)
      have g0 := (hJ.cell (p := ⟨w.heap.size + 1 + 1, 0, none⟩) (by dsimp only; omega)).trans c_b0
      have g1 := (hJ.cell (p := ⟨w.heap.size + 1 + 1, 1, none⟩) (by dsimp only; omega)).trans c_b1
      have g2 := (hJ.cell (p := ⟨w.heap.size + 1 + 1, 2, none⟩) (by dsimp only; omega)).trans c_b2
      have g3 := (hJ.cell (p := ⟨w.heap.size + 1 + 1, 3, none⟩) (by dsimp only; omega)).trans c_b3
      have g4 := (hJ.cell (p := ⟨w.heap.size + 1 + 1, 4, none⟩) (by dsimp only; omega)).trans c_b4
      have g5 := (hJ.cell (p := ⟨w.heap.size + 1 + 1, 5, none⟩) (by dsimp only; omega)).trans c_b5
      have HK := Lib.hid hK
      clear hK ev hd hD
      go_simp
      exact HK.out _ _ (fun h => by cases h) hJ rfl (fun j p _ _ => boxR_free (by decide) (by decide)) (Below.refl _ _)
    case o5 =>
      intro u a w' ev hJ hd Dn hD K hK
      have e37 : a.tmps.getD 37 undef = .agg #[.int .i64 d.seg, .slice bwa d.ws.length bwc, .slice bka d.ks.length bkc, .slice bva d.vs.length bvc, .slice bca d.cs.length bcc, .int .u64 d.laid] := (ev 37 (by decide)).trans (hd 4 _ (by kernel_rfl) rfl)
      have HK := Lib.hid hK
      have HC := Lib.hid (TB.out w' (below_via hJ HS.out (by omega)))
      have hzJ := hJ.size
      clear hK ev hd hD
      go_simp
      refine HC.out.mono ?_
      rintro e w'' ⟨v1, v2, v3, v4, rfl, o1, o2, o3, o4, hb⟩
      exact HK.out _ _ (fun h => by cases h) (hJ.trans (hb.mono hzJ)) ⟨_, _, _, _, rfl, owns_base o1 hzJ, owns_base o2 hzJ, owns_base o3 hzJ, owns_base o4 hzJ⟩ (fun j p _ _ => boxR_free (by decide) (by decide)) hb
    case o6 =>
      intro u a w' ev hJ hd Dn hD K hK
      have HK := Lib.hid hK
      have hzJ := hJ.size
      have HJ := Lib.hid hJ
      have HD := Lib.hid hD
      clear hK ev hd hJ hD
      go_simp
      exact HK.out _ _ (fun h => by cases h) (HJ.out.alloc hzJ _) ⟨_, _, rfl, hzJ, alloc_new _ _, rfl⟩ (fun j p _ _ => boxR_free (by decide) (by decide)) ((Below.refl _ _).alloc (Nat.le_refl _) _)
    case o7 =>
      intro u a w' ev hJ hd Dn hD K hK
      have HK := Lib.hid hK
      have hzJ := hJ.size
      have HJ := Lib.hid hJ
      have HD := Lib.hid hD
      clear hK ev hd hJ hD
      go_simp
      refine HK.out _ _ (fun h => by cases h) (HJ.out.alloc hzJ _) ⟨_, _, rfl, hzJ, alloc_new _ _, rfl⟩ (fun j p hj hp => boxR_alloc (B := wz.heap.size) (c := 6) (t := 29) (fun h => ?_)) ((Below.refl _ _).alloc (Nat.le_refl _) _)
      rcases h with rfl | rfl <;> exact HD.out _ _ hj hp
    case o8 =>
      intro u a w' ev hJ hd Dn hD K hK
      have HK := Lib.hid hK
      have hzJ := hJ.size
      have HJ := Lib.hid hJ
      have HD := Lib.hid hD
      clear hK ev hd hJ hD
      go_simp
      refine HK.out _ _ (fun h => by cases h) (HJ.out.alloc hzJ _) ⟨_, _, rfl, hzJ, alloc_new _ _, rfl⟩ (fun j p hj hp => boxR_alloc (B := wz.heap.size) (c := 6) (t := 29) (fun h => ?_)) ((Below.refl _ _).alloc (Nat.le_refl _) _)
      rcases h with rfl | rfl <;> exact HD.out _ _ hj hp
  case fin =>
    intro u wy hJ hG hR
    obtain ⟨x1, y1, h1, ho1, ho2⟩ : (FactR.ix wz.heap.size l ms cs).holds (u 34) wy := hG 1 _ rfl
    obtain ⟨v1, v2, v3, v4, h3, hp1, hp2, hp3, hp4⟩ : (FactR.sl wz.heap.size c).holds (u 36) wy := hG 3 _ rfl
    obtain ⟨z1, z2, z3, z4, h5, hq1, hq2, hq3, hq4⟩ : (FactR.sl wz.heap.size d).holds (u 38) wy := hG 5 _ rfl
    obtain ⟨b5, cs5, h6, hz5, hh5, hn5⟩ : (FactR.box wz.heap.size 25 3).holds (u 9) wy := hG 6 _ rfl
    obtain ⟨b6, cs6, h7, hz6, hh6, hn6⟩ : (FactR.box wz.heap.size 29 6).holds (u 10) wy := hG 7 _ rfl
    obtain ⟨b7, cs7, h8, hz7, hh7, hn7⟩ : (FactR.box wz.heap.size 29 6).holds (u 11) wy := hG 8 _ rfl
    have h67 : b6 ≠ b7 := fun e => (show u 10 ≠ u 11 from hR 7 8 _ _ (by decide) rfl rfl (by decide)) (by rw [h7, h8, e])
    have h56 : b5 ≠ b6 := by rintro rfl; rw [hh5] at hh6; cases hh6
    have h57 : b5 ≠ b7 := by rintro rfl; rw [hh5] at hh7; cases hh7
    have HQo1 := Lib.hid (And.intro ho1 (And.intro (row_apart hh5 ho1 (by decide)) (And.intro (row_apart hh6 ho1 (by decide)) (row_apart hh7 ho1 (by decide)))))
    have HQo2 := Lib.hid (And.intro ho2 (And.intro (row_apart hh5 ho2 (by decide)) (And.intro (row_apart hh6 ho2 (by decide)) (row_apart hh7 ho2 (by decide)))))
    have HQp1 := Lib.hid (And.intro hp1 (And.intro (row_apart hh5 hp1 (by decide)) (And.intro (row_apart hh6 hp1 (by decide)) (row_apart hh7 hp1 (by decide)))))
    have HQp2 := Lib.hid (And.intro hp2 (And.intro (row_apart hh5 hp2 (by decide)) (And.intro (row_apart hh6 hp2 (by decide)) (row_apart hh7 hp2 (by decide)))))
    have HQp3 := Lib.hid (And.intro hp3 (And.intro (row_apart hh5 hp3 (by decide)) (And.intro (row_apart hh6 hp3 (by decide)) (row_apart hh7 hp3 (by decide)))))
    have HQp4 := Lib.hid (And.intro hp4 (And.intro (row_apart hh5 hp4 (by decide)) (And.intro (row_apart hh6 hp4 (by decide)) (row_apart hh7 hp4 (by decide)))))
    have HQq1 := Lib.hid (And.intro hq1 (And.intro (row_apart hh5 hq1 (by decide)) (And.intro (row_apart hh6 hq1 (by decide)) (row_apart hh7 hq1 (by decide)))))
    have HQq2 := Lib.hid (And.intro hq2 (And.intro (row_apart hh5 hq2 (by decide)) (And.intro (row_apart hh6 hq2 (by decide)) (row_apart hh7 hq2 (by decide)))))
    have HQq3 := Lib.hid (And.intro hq3 (And.intro (row_apart hh5 hq3 (by decide)) (And.intro (row_apart hh6 hq3 (by decide)) (row_apart hh7 hq3 (by decide)))))
    have HQq4 := Lib.hid (And.intro hq4 (And.intro (row_apart hh5 hq4 (by decide)) (And.intro (row_apart hh6 hq4 (by decide)) (row_apart hh7 hq4 (by decide)))))
    obtain ⟨d0, d1, d2, k0, k1, k2, f0, f1, f2⟩ := box_three hh5 hn5
    obtain ⟨e0, e1, e2, e3, e4, e5, m0, m1, m2, m3, m4, m5, mf⟩ := box_six hh6 hn6
    obtain ⟨g0, g1, g2, g3, g4, g5, n0, n1, n2, n3, n4, n5, nf⟩ := box_six hh7 hn7
    have mf0 := mf 0
    have nf0 := nf 0
    have mf1 := mf 1
    have nf1 := nf 1
    have mf2 := mf 2
    have nf2 := nf 2
    have mf3 := mf 3
    have nf3 := nf 3
    have mf4 := mf 4
    have nf4 := nf 4
    have mf5 := mf 5
    have nf5 := nf 5
    have hlb5 := World.block_lt_of_cell? _ _ k0
    have hlb6 := World.block_lt_of_cell? _ _ m0
    have hlb7 := World.block_lt_of_cell? _ _ n0
    dsimp only at hlb5 hlb6 hlb7
    obtain ⟨xa, xc, rfl, -⟩ := owns_news ho1
    obtain ⟨ya, yc, rfl, -⟩ := owns_news ho2
    obtain ⟨p1, pc1, rfl, -⟩ := owns_news hp1
    obtain ⟨p2, pc2, rfl, -⟩ := owns_news hp2
    obtain ⟨p3, pc3, rfl, -⟩ := owns_news hp3
    obtain ⟨p4, pc4, rfl, -⟩ := owns_news hp4
    obtain ⟨r1, rc1, rfl, -⟩ := owns_news hq1
    obtain ⟨r2, rc2, rfl, -⟩ := owns_news hq2
    obtain ⟨r3, rc3, rfl, -⟩ := owns_news hq3
    obtain ⟨r4, rc4, rfl, -⟩ := owns_news hq4
    obtain ⟨_, _, e', -, -, -, capp2, -⟩ := row_of_owns hp2
    cases e'
    obtain ⟨_, _, e', -, -, -, capp3, -⟩ := row_of_owns hp3
    cases e'
    obtain ⟨_, _, e', -, -, -, capq2, -⟩ := row_of_owns hq2
    cases e'
    obtain ⟨_, _, e', -, -, -, capq3, -⟩ := row_of_owns hq3
    cases e'
    have HJ := Lib.hid hJ
    have hzJ := hJ.size
    have HTB := Lib.hid (three_boxes (x := .int .i64 l) (y := .slice xa ms.length xc) (z := .slice ya cs.length yc) (p0 := .int .i64 c.seg) (p1 := .slice p1 c.ws.length pc1) (p2 := .slice p2 c.ks.length pc2) (p3 := .slice p3 c.vs.length pc3) (p4 := .slice p4 c.cs.length pc4) (p5 := .int .u64 c.laid) (q0 := .int .i64 d.seg) (q1 := .slice r1 d.ws.length rc1) (q2 := .slice r2 d.ks.length rc2) (q3 := .slice r3 d.vs.length rc3) (q4 := .slice r4 d.cs.length rc4) (q5 := .int .u64 d.laid) h56 h57 h67 k0 k1 k2 m0 m1 m2 m3 m4 m5 n0 n1 n2 n3 n4 n5 _ rfl)
    clear hG hR ho1 ho2 hp1 hp2 hp3 hp4 hq1 hq2 hq3 hq4 hh5 hh6 hh7 hn5 hn6 hn7 mf nf hJ
    simp only [mixFrame, mixL, dstsOf, List.take_succ_cons, List.take_zero, List.filterMap_cons, List.filterMap_nil, List.contains_cons, List.contains_nil, Nat.reduceBEq, Bool.or_false, Bool.false_or, Bool.or_true, Bool.true_or, if_true, if_false, Bool.false_eq_true, Nat.reduceAdd, Nat.zero_add, List.drop_succ_cons, List.drop_zero, h1, h3, h5, h6, h7, h8]
    clear h1 h3 h5 h6 h7 h8
    go_upto_region 4 with (fail)
    generalize (((((((((((((((wy.setCell ⟨b5, 0, none⟩ (.int .i64 l)).setCell ⟨b5, 1, none⟩ (.slice xa ms.length xc)).setCell ⟨b5, 2, none⟩ (.slice ya cs.length yc)).setCell ⟨b6, 0, none⟩ (.int .i64 c.seg)).setCell ⟨b6, 1, none⟩ (.slice p1 c.ws.length pc1)).setCell ⟨b6, 2, none⟩ (.slice p2 c.ks.length pc2)).setCell ⟨b6, 3, none⟩ (.slice p3 c.vs.length pc3)).setCell ⟨b6, 4, none⟩ (.slice p4 c.cs.length pc4)).setCell ⟨b6, 5, none⟩ (.int .u64 c.laid)).setCell ⟨b7, 0, none⟩ (.int .i64 d.seg)).setCell ⟨b7, 1, none⟩ (.slice r1 d.ws.length rc1)).setCell ⟨b7, 2, none⟩ (.slice r2 d.ks.length rc2)).setCell ⟨b7, 3, none⟩ (.slice r3 d.vs.length rc3)).setCell ⟨b7, 4, none⟩ (.slice r4 d.cs.length rc4)).setCell ⟨b7, 5, none⟩ (.int .u64 d.laid)) = w4 at *
    obtain ⟨⟨c_p0, c_p1, c_p2⟩, hs6, hs7, hz4, hq4, hb4⟩ := HTB.out
    have c_s0 := hs6 0 _ rfl
    have c_r0 := hs7 0 _ rfl
    have c_s1 := hs6 1 _ rfl
    have c_r1 := hs7 1 _ rfl
    have c_s2 := hs6 2 _ rfl
    have c_r2 := hs7 2 _ rfl
    have c_s3 := hs6 3 _ rfl
    have c_r3 := hs7 3 _ rfl
    have c_s4 := hs6 4 _ rfl
    have c_r4 := hs7 4 _ rfl
    have c_s5 := hs6 5 _ rfl
    have c_r5 := hs7 5 _ rfl
    have HJ4 := Lib.hid (hb4 HJ.out hz5 hz6 hz7)
    have Ho1 := Lib.hid (owns_heap (W' := w4) HQo1.out.1 fun k hk => hq4 k (HQo1.out.2.1 k hk) (HQo1.out.2.2.1 k hk) (HQo1.out.2.2.2 k hk))
    have Ho2 := Lib.hid (owns_heap (W' := w4) HQo2.out.1 fun k hk => hq4 k (HQo2.out.2.1 k hk) (HQo2.out.2.2.1 k hk) (HQo2.out.2.2.2 k hk))
    have Hp1 := Lib.hid (owns_heap (W' := w4) HQp1.out.1 fun k hk => hq4 k (HQp1.out.2.1 k hk) (HQp1.out.2.2.1 k hk) (HQp1.out.2.2.2 k hk))
    have Hp2 := Lib.hid (owns_heap (W' := w4) HQp2.out.1 fun k hk => hq4 k (HQp2.out.2.1 k hk) (HQp2.out.2.2.1 k hk) (HQp2.out.2.2.2 k hk))
    have Hp3 := Lib.hid (owns_heap (W' := w4) HQp3.out.1 fun k hk => hq4 k (HQp3.out.2.1 k hk) (HQp3.out.2.2.1 k hk) (HQp3.out.2.2.2 k hk))
    have Hp4 := Lib.hid (owns_heap (W' := w4) HQp4.out.1 fun k hk => hq4 k (HQp4.out.2.1 k hk) (HQp4.out.2.2.1 k hk) (HQp4.out.2.2.2 k hk))
    have Hq1 := Lib.hid (owns_heap (W' := w4) HQq1.out.1 fun k hk => hq4 k (HQq1.out.2.1 k hk) (HQq1.out.2.2.1 k hk) (HQq1.out.2.2.2 k hk))
    have Hq2 := Lib.hid (owns_heap (W' := w4) HQq2.out.1 fun k hk => hq4 k (HQq2.out.2.1 k hk) (HQq2.out.2.2.1 k hk) (HQq2.out.2.2.2 k hk))
    have Hq3 := Lib.hid (owns_heap (W' := w4) HQq3.out.1 fun k hk => hq4 k (HQq3.out.2.1 k hk) (HQq3.out.2.2.1 k hk) (HQq3.out.2.2.2 k hk))
    have Hq4 := Lib.hid (owns_heap (W' := w4) HQq4.out.1 fun k hk => hq4 k (HQq4.out.2.1 k hk) (HQq4.out.2.2.1 k hk) (HQq4.out.2.2.2 k hk))
    have z_p : b5 < w4.heap.size := by omega
    have z_s : b6 < w4.heap.size := by omega
    have z_r : b7 < w4.heap.size := by omega
    clear HTB hs6 hs7 hq4 hb4 HJ hlb5 hlb6 hlb7 k0 k1 k2 m0 m1 m2 m3 m4 m5 n0 n1 n2 n3 n4 n5 f0 f1 f2 mf0 nf0 mf1 nf1 mf2 nf2 mf3 nf3 mf4 nf4 mf5 nf5 HQo1 HQo2 HQp1 HQp2 HQp3 HQp4 HQq1 HQq2 HQq3 HQq4
    have hzw4 : wz.heap.size ≤ w4.heap.size := HJ4.out.size
    have hB4 : Below w.heap.size w w4 := below_via HJ4.out HS.out HS.out.size
    have hJ4 := HJ4.out
    have hz_w4 := hJ4.size
    try simp only [World.size_alloc, World.size_setCell] at hz_w4
    have all_c : w4.cell? ⟨w.heap.size, 0, none⟩ = some (.int .i64 l) ∧ w4.cell? ⟨w.heap.size, 1, none⟩ = some (.slice ma ms.length mc) ∧ w4.cell? ⟨w.heap.size, 2, none⟩ = some (.slice ica cs.length icc) ∧ w4.cell? ⟨w.heap.size + 1, 0, none⟩ = some (.int .i64 c.seg) ∧ w4.cell? ⟨w.heap.size + 1, 1, none⟩ = some (.slice awa c.ws.length awc) ∧ w4.cell? ⟨w.heap.size + 1, 2, none⟩ = some (.slice aka c.ks.length akc) ∧ w4.cell? ⟨w.heap.size + 1, 3, none⟩ = some (.slice ava c.vs.length avc) ∧ w4.cell? ⟨w.heap.size + 1, 4, none⟩ = some (.slice aca c.cs.length acc) ∧ w4.cell? ⟨w.heap.size + 1, 5, none⟩ = some (.int .u64 c.laid) ∧ w4.cell? ⟨w.heap.size + 1 + 1, 0, none⟩ = some (.int .i64 d.seg) ∧ w4.cell? ⟨w.heap.size + 1 + 1, 1, none⟩ = some (.slice bwa d.ws.length bwc) ∧ w4.cell? ⟨w.heap.size + 1 + 1, 2, none⟩ = some (.slice bka d.ks.length bkc) ∧ w4.cell? ⟨w.heap.size + 1 + 1, 3, none⟩ = some (.slice bva d.vs.length bvc) ∧ w4.cell? ⟨w.heap.size + 1 + 1, 4, none⟩ = some (.slice bca d.cs.length bcc) ∧ w4.cell? ⟨w.heap.size + 1 + 1, 5, none⟩ = some (.int .u64 d.laid) ∧ w4.cell? ⟨w.heap.size + 1 + 1 + 1, 0, none⟩ = some (.int .i64 x0) ∧ w4.cell? ⟨w.heap.size + 1 + 1 + 1, 1, none⟩ = some (.int .i64 x1) := by refine ⟨?_, ?_, ?_, ?_, ?_, ?_, ?_, ?_, ?_, ?_, ?_, ?_, ?_, ?_, ?_, ?_, ?_⟩ <;> (refine (hJ4.cell ?_).trans ?_ <;> first | (first | (with_reducible assumption) | omega | (simp only [szW] <;> omega) | (simp <;> omega)) | (first | (with_reducible assumption) | ((try simp (disch := first | omega | (simp only [szW] <;> omega) | fail) only [ceW]) <;> first | (with_reducible assumption) | rfl)))
    have all_z : w.heap.size < w4.heap.size ∧ w.heap.size + 1 < w4.heap.size ∧ w.heap.size + 1 + 1 < w4.heap.size ∧ w.heap.size + 1 + 1 + 1 < w4.heap.size := by refine ⟨?_, ?_, ?_, ?_⟩ <;> (omega)
    clear c_x0 c_x1 c_x2 c_a0 c_a1 c_a2 c_a3 c_a4 c_a5 c_b0 c_b1 c_b2 c_b3 c_b4 c_b5 c_k0 c_k1 z_x z_a z_b z_k
    obtain ⟨c_x0, c_x1, c_x2, c_a0, c_a1, c_a2, c_a3, c_a4, c_a5, c_b0, c_b1, c_b2, c_b3, c_b4, c_b5, c_k0, c_k1⟩ := all_c
    try clear all_c
    obtain ⟨z_x, z_a, z_b, z_k⟩ := all_z
    try clear all_z
    have HXA : Hid (IsRow .i64 w4 xa ms) := Lib.hid (by obtain ⟨a', c', h, h2, -⟩ := row_of_owns Ho1.out; cases h; exact h2)
    have HYA : Hid (IsRow .i64 w4 ya cs) := Lib.hid (by obtain ⟨a', c', h, h2, -⟩ := row_of_owns Ho2.out; cases h; exact h2)
    have HIC : Hid (SlIn w4 c ⟨p1, p2, p3, p4, pc1, pc2, pc3, pc4⟩) := Lib.hid ⟨by obtain ⟨a', c', h, h2, -⟩ := row_of_owns Hp1.out; cases h; exact h2, by obtain ⟨a', c', h, h2, -⟩ := row_of_owns Hp2.out; cases h; exact h2, by obtain ⟨a', c', h, h2, -⟩ := row_of_owns Hp3.out; cases h; exact h2, by obtain ⟨a', c', h, h2, -⟩ := row_of_owns Hp4.out; cases h; exact h2, HUC.out⟩
    have HID : Hid (SlIn w4 d ⟨r1, r2, r3, r4, rc1, rc2, rc3, rc4⟩) := Lib.hid ⟨by obtain ⟨a', c', h, h2, -⟩ := row_of_owns Hq1.out; cases h; exact h2, by obtain ⟨a', c', h, h2, -⟩ := row_of_owns Hq2.out; cases h; exact h2, by obtain ⟨a', c', h, h2, -⟩ := row_of_owns Hq3.out; cases h; exact h2, by obtain ⟨a', c', h, h2, -⟩ := row_of_owns Hq4.out; cases h; exact h2, HUD.out⟩
    clear Ho1 Ho2 Hp1 Hp2 Hp3 Hp4 Hq1 Hq2 Hq3 Hq4 T18 TA TB G1 G2 G3 HJ4 hzw4 hJ4 hz4
    have TU4 := Lib.hid (TU.out ⟨p1, p2, p3, p4, pc1, pc2, pc3, pc4⟩ ⟨r1, r2, r3, r4, rc1, rc2, rc3, rc4⟩ w4 HIC.out HID.out capp2 capp3 capq2 capq3)
    have SI4 := Lib.hid (fun W (hb : Below w4.heap.size w4 W) => SI.out xa ya xc yc W (below_via hb hB4 hB4.size) (HXA.out.below hb) (HYA.out.below hb))
    have SC4 := Lib.hid (fun W (hb : Below w4.heap.size w4 W) => SC.out ⟨p1, p2, p3, p4, pc1, pc2, pc3, pc4⟩ W (below_via hb hB4 hB4.size) (HIC.out.below hb))
    have SD4 := Lib.hid (fun W (hb : Below w4.heap.size w4 W) => SD.out ⟨r1, r2, r3, r4, rc1, rc2, rc3, rc4⟩ W (below_via hb hB4 hB4.size) (HID.out.below hb))
    have WN4 := Lib.hid (fun W (hb : Below w4.heap.size w4 W) => WN.out xa ya xc yc ⟨r1, r2, r3, r4, rc1, rc2, rc3, rc4⟩ W (HXA.out.below hb) (HYA.out.below hb) (HID.out.below hb))
    dsimp only [slV, ixV] at TU4 SI4 SC4 SD4 SB WN4
    clear TU WN SI SC SD HXA HYA HIC HID capp2 capp3 capq2 capq3 HUC HUD
    go_wp2_with fail
    refine TU4.out.mono ?_
    rintro e v1 ⟨rfl, hc1⟩
    have hz_v1 := hc1.size
    try simp only [World.size_alloc, World.size_setCell] at hz_v1
    have all_c : v1.cell? ⟨w.heap.size, 0, none⟩ = some (.int .i64 l) ∧ v1.cell? ⟨w.heap.size, 1, none⟩ = some (.slice ma ms.length mc) ∧ v1.cell? ⟨w.heap.size, 2, none⟩ = some (.slice ica cs.length icc) ∧ v1.cell? ⟨w.heap.size + 1, 0, none⟩ = some (.int .i64 c.seg) ∧ v1.cell? ⟨w.heap.size + 1, 1, none⟩ = some (.slice awa c.ws.length awc) ∧ v1.cell? ⟨w.heap.size + 1, 2, none⟩ = some (.slice aka c.ks.length akc) ∧ v1.cell? ⟨w.heap.size + 1, 3, none⟩ = some (.slice ava c.vs.length avc) ∧ v1.cell? ⟨w.heap.size + 1, 4, none⟩ = some (.slice aca c.cs.length acc) ∧ v1.cell? ⟨w.heap.size + 1, 5, none⟩ = some (.int .u64 c.laid) ∧ v1.cell? ⟨w.heap.size + 1 + 1, 0, none⟩ = some (.int .i64 d.seg) ∧ v1.cell? ⟨w.heap.size + 1 + 1, 1, none⟩ = some (.slice bwa d.ws.length bwc) ∧ v1.cell? ⟨w.heap.size + 1 + 1, 2, none⟩ = some (.slice bka d.ks.length bkc) ∧ v1.cell? ⟨w.heap.size + 1 + 1, 3, none⟩ = some (.slice bva d.vs.length bvc) ∧ v1.cell? ⟨w.heap.size + 1 + 1, 4, none⟩ = some (.slice bca d.cs.length bcc) ∧ v1.cell? ⟨w.heap.size + 1 + 1, 5, none⟩ = some (.int .u64 d.laid) ∧ v1.cell? ⟨w.heap.size + 1 + 1 + 1, 0, none⟩ = some (.int .i64 x0) ∧ v1.cell? ⟨w.heap.size + 1 + 1 + 1, 1, none⟩ = some (.int .i64 x1) ∧ v1.cell? ⟨b5, 0, none⟩ = some (.int .i64 l) ∧ v1.cell? ⟨b5, 1, none⟩ = some (.slice xa ms.length xc) ∧ v1.cell? ⟨b5, 2, none⟩ = some (.slice ya cs.length yc) ∧ v1.cell? ⟨b6, 0, none⟩ = some (.int .i64 c.seg) ∧ v1.cell? ⟨b6, 1, none⟩ = some (.slice p1 c.ws.length pc1) ∧ v1.cell? ⟨b6, 2, none⟩ = some (.slice p2 c.ks.length pc2) ∧ v1.cell? ⟨b6, 3, none⟩ = some (.slice p3 c.vs.length pc3) ∧ v1.cell? ⟨b6, 4, none⟩ = some (.slice p4 c.cs.length pc4) ∧ v1.cell? ⟨b6, 5, none⟩ = some (.int .u64 c.laid) ∧ v1.cell? ⟨b7, 0, none⟩ = some (.int .i64 d.seg) ∧ v1.cell? ⟨b7, 1, none⟩ = some (.slice r1 d.ws.length rc1) ∧ v1.cell? ⟨b7, 2, none⟩ = some (.slice r2 d.ks.length rc2) ∧ v1.cell? ⟨b7, 3, none⟩ = some (.slice r3 d.vs.length rc3) ∧ v1.cell? ⟨b7, 4, none⟩ = some (.slice r4 d.cs.length rc4) ∧ v1.cell? ⟨b7, 5, none⟩ = some (.int .u64 d.laid) := by refine ⟨?_, ?_, ?_, ?_, ?_, ?_, ?_, ?_, ?_, ?_, ?_, ?_, ?_, ?_, ?_, ?_, ?_, ?_, ?_, ?_, ?_, ?_, ?_, ?_, ?_, ?_, ?_, ?_, ?_, ?_, ?_, ?_⟩ <;> (refine (hc1.cell ?_).trans ?_ <;> first | (first | (with_reducible assumption) | omega | (simp only [szW] <;> omega) | (simp <;> omega)) | (first | (with_reducible assumption) | ((try simp (disch := first | omega | (simp only [szW] <;> omega) | fail) only [ceW]) <;> first | (with_reducible assumption) | rfl)))
    have all_z : w.heap.size < v1.heap.size ∧ w.heap.size + 1 < v1.heap.size ∧ w.heap.size + 1 + 1 < v1.heap.size ∧ w.heap.size + 1 + 1 + 1 < v1.heap.size ∧ b5 < v1.heap.size ∧ b6 < v1.heap.size ∧ b7 < v1.heap.size := by refine ⟨?_, ?_, ?_, ?_, ?_, ?_, ?_⟩ <;> (omega)
    clear c_x0 c_x1 c_x2 c_a0 c_a1 c_a2 c_a3 c_a4 c_a5 c_b0 c_b1 c_b2 c_b3 c_b4 c_b5 c_k0 c_k1 z_x z_a z_b z_k
    obtain ⟨c_x0, c_x1, c_x2, c_a0, c_a1, c_a2, c_a3, c_a4, c_a5, c_b0, c_b1, c_b2, c_b3, c_b4, c_b5, c_k0, c_k1, c_p0, c_p1, c_p2, c_s0, c_s1, c_s2, c_s3, c_s4, c_s5, c_r0, c_r1, c_r2, c_r3, c_r4, c_r5⟩ := all_c
    try clear all_c
    obtain ⟨z_x, z_a, z_b, z_k, z_p, z_s, z_r⟩ := all_z
    try clear all_z
    have hC1 : Below w.heap.size w v1 := below_via hc1 hB4 hB4.size
    have hD1 : Below w4.heap.size w4 v1 := hc1
    clear hc1 TU4
    go_wp2_with fail
    refine (TR.out _ hC1).mono ?_
    rintro e v2 ⟨rfl, hc2⟩
    have hz_v2 := hc2.size
    try simp only [World.size_alloc, World.size_setCell] at hz_v2
    have all_c : v2.cell? ⟨w.heap.size, 0, none⟩ = some (.int .i64 l) ∧ v2.cell? ⟨w.heap.size, 1, none⟩ = some (.slice ma ms.length mc) ∧ v2.cell? ⟨w.heap.size, 2, none⟩ = some (.slice ica cs.length icc) ∧ v2.cell? ⟨w.heap.size + 1, 0, none⟩ = some (.int .i64 c.seg) ∧ v2.cell? ⟨w.heap.size + 1, 1, none⟩ = some (.slice awa c.ws.length awc) ∧ v2.cell? ⟨w.heap.size + 1, 2, none⟩ = some (.slice aka c.ks.length akc) ∧ v2.cell? ⟨w.heap.size + 1, 3, none⟩ = some (.slice ava c.vs.length avc) ∧ v2.cell? ⟨w.heap.size + 1, 4, none⟩ = some (.slice aca c.cs.length acc) ∧ v2.cell? ⟨w.heap.size + 1, 5, none⟩ = some (.int .u64 c.laid) ∧ v2.cell? ⟨w.heap.size + 1 + 1, 0, none⟩ = some (.int .i64 d.seg) ∧ v2.cell? ⟨w.heap.size + 1 + 1, 1, none⟩ = some (.slice bwa d.ws.length bwc) ∧ v2.cell? ⟨w.heap.size + 1 + 1, 2, none⟩ = some (.slice bka d.ks.length bkc) ∧ v2.cell? ⟨w.heap.size + 1 + 1, 3, none⟩ = some (.slice bva d.vs.length bvc) ∧ v2.cell? ⟨w.heap.size + 1 + 1, 4, none⟩ = some (.slice bca d.cs.length bcc) ∧ v2.cell? ⟨w.heap.size + 1 + 1, 5, none⟩ = some (.int .u64 d.laid) ∧ v2.cell? ⟨w.heap.size + 1 + 1 + 1, 0, none⟩ = some (.int .i64 x0) ∧ v2.cell? ⟨w.heap.size + 1 + 1 + 1, 1, none⟩ = some (.int .i64 x1) ∧ v2.cell? ⟨b5, 0, none⟩ = some (.int .i64 l) ∧ v2.cell? ⟨b5, 1, none⟩ = some (.slice xa ms.length xc) ∧ v2.cell? ⟨b5, 2, none⟩ = some (.slice ya cs.length yc) ∧ v2.cell? ⟨b6, 0, none⟩ = some (.int .i64 c.seg) ∧ v2.cell? ⟨b6, 1, none⟩ = some (.slice p1 c.ws.length pc1) ∧ v2.cell? ⟨b6, 2, none⟩ = some (.slice p2 c.ks.length pc2) ∧ v2.cell? ⟨b6, 3, none⟩ = some (.slice p3 c.vs.length pc3) ∧ v2.cell? ⟨b6, 4, none⟩ = some (.slice p4 c.cs.length pc4) ∧ v2.cell? ⟨b6, 5, none⟩ = some (.int .u64 c.laid) ∧ v2.cell? ⟨b7, 0, none⟩ = some (.int .i64 d.seg) ∧ v2.cell? ⟨b7, 1, none⟩ = some (.slice r1 d.ws.length rc1) ∧ v2.cell? ⟨b7, 2, none⟩ = some (.slice r2 d.ks.length rc2) ∧ v2.cell? ⟨b7, 3, none⟩ = some (.slice r3 d.vs.length rc3) ∧ v2.cell? ⟨b7, 4, none⟩ = some (.slice r4 d.cs.length rc4) ∧ v2.cell? ⟨b7, 5, none⟩ = some (.int .u64 d.laid) := by refine ⟨?_, ?_, ?_, ?_, ?_, ?_, ?_, ?_, ?_, ?_, ?_, ?_, ?_, ?_, ?_, ?_, ?_, ?_, ?_, ?_, ?_, ?_, ?_, ?_, ?_, ?_, ?_, ?_, ?_, ?_, ?_, ?_⟩ <;> (refine (hc2.cell ?_).trans ?_ <;> first | (first | (with_reducible assumption) | omega | (simp only [szW] <;> omega) | (simp <;> omega)) | (first | (with_reducible assumption) | ((try simp (disch := first | omega | (simp only [szW] <;> omega) | fail) only [ceW]) <;> first | (with_reducible assumption) | rfl)))
    have all_z : w.heap.size < v2.heap.size ∧ w.heap.size + 1 < v2.heap.size ∧ w.heap.size + 1 + 1 < v2.heap.size ∧ w.heap.size + 1 + 1 + 1 < v2.heap.size ∧ b5 < v2.heap.size ∧ b6 < v2.heap.size ∧ b7 < v2.heap.size := by refine ⟨?_, ?_, ?_, ?_, ?_, ?_, ?_⟩ <;> (omega)
    clear c_x0 c_x1 c_x2 c_a0 c_a1 c_a2 c_a3 c_a4 c_a5 c_b0 c_b1 c_b2 c_b3 c_b4 c_b5 c_k0 c_k1 c_p0 c_p1 c_p2 c_s0 c_s1 c_s2 c_s3 c_s4 c_s5 c_r0 c_r1 c_r2 c_r3 c_r4 c_r5 z_x z_a z_b z_k z_p z_s z_r
    obtain ⟨c_x0, c_x1, c_x2, c_a0, c_a1, c_a2, c_a3, c_a4, c_a5, c_b0, c_b1, c_b2, c_b3, c_b4, c_b5, c_k0, c_k1, c_p0, c_p1, c_p2, c_s0, c_s1, c_s2, c_s3, c_s4, c_s5, c_r0, c_r1, c_r2, c_r3, c_r4, c_r5⟩ := all_c
    try clear all_c
    obtain ⟨z_x, z_a, z_b, z_k, z_p, z_s, z_r⟩ := all_z
    try clear all_z
    have hC2 : Below w.heap.size w v2 := below_via hc2 hC1 (by omega)
    have hD2 : Below w4.heap.size w4 v2 := below_via hc2 hD1 (by omega)
    clear hc2 TR hC1 hD1
    go_wp2_with fail
    refine (WN4.out _ hD2).mono ?_
    rintro e w5 ⟨v5, u5, rfl, q1, q2, hb5⟩
    have hz_w5 := hb5.size
    try simp only [World.size_alloc, World.size_setCell] at hz_w5
    have all_c : w5.cell? ⟨w.heap.size, 0, none⟩ = some (.int .i64 l) ∧ w5.cell? ⟨w.heap.size, 1, none⟩ = some (.slice ma ms.length mc) ∧ w5.cell? ⟨w.heap.size, 2, none⟩ = some (.slice ica cs.length icc) ∧ w5.cell? ⟨w.heap.size + 1, 0, none⟩ = some (.int .i64 c.seg) ∧ w5.cell? ⟨w.heap.size + 1, 1, none⟩ = some (.slice awa c.ws.length awc) ∧ w5.cell? ⟨w.heap.size + 1, 2, none⟩ = some (.slice aka c.ks.length akc) ∧ w5.cell? ⟨w.heap.size + 1, 3, none⟩ = some (.slice ava c.vs.length avc) ∧ w5.cell? ⟨w.heap.size + 1, 4, none⟩ = some (.slice aca c.cs.length acc) ∧ w5.cell? ⟨w.heap.size + 1, 5, none⟩ = some (.int .u64 c.laid) ∧ w5.cell? ⟨w.heap.size + 1 + 1, 0, none⟩ = some (.int .i64 d.seg) ∧ w5.cell? ⟨w.heap.size + 1 + 1, 1, none⟩ = some (.slice bwa d.ws.length bwc) ∧ w5.cell? ⟨w.heap.size + 1 + 1, 2, none⟩ = some (.slice bka d.ks.length bkc) ∧ w5.cell? ⟨w.heap.size + 1 + 1, 3, none⟩ = some (.slice bva d.vs.length bvc) ∧ w5.cell? ⟨w.heap.size + 1 + 1, 4, none⟩ = some (.slice bca d.cs.length bcc) ∧ w5.cell? ⟨w.heap.size + 1 + 1, 5, none⟩ = some (.int .u64 d.laid) ∧ w5.cell? ⟨w.heap.size + 1 + 1 + 1, 0, none⟩ = some (.int .i64 x0) ∧ w5.cell? ⟨w.heap.size + 1 + 1 + 1, 1, none⟩ = some (.int .i64 x1) ∧ w5.cell? ⟨b5, 0, none⟩ = some (.int .i64 l) ∧ w5.cell? ⟨b5, 1, none⟩ = some (.slice xa ms.length xc) ∧ w5.cell? ⟨b5, 2, none⟩ = some (.slice ya cs.length yc) ∧ w5.cell? ⟨b6, 0, none⟩ = some (.int .i64 c.seg) ∧ w5.cell? ⟨b6, 1, none⟩ = some (.slice p1 c.ws.length pc1) ∧ w5.cell? ⟨b6, 2, none⟩ = some (.slice p2 c.ks.length pc2) ∧ w5.cell? ⟨b6, 3, none⟩ = some (.slice p3 c.vs.length pc3) ∧ w5.cell? ⟨b6, 4, none⟩ = some (.slice p4 c.cs.length pc4) ∧ w5.cell? ⟨b6, 5, none⟩ = some (.int .u64 c.laid) ∧ w5.cell? ⟨b7, 0, none⟩ = some (.int .i64 d.seg) ∧ w5.cell? ⟨b7, 1, none⟩ = some (.slice r1 d.ws.length rc1) ∧ w5.cell? ⟨b7, 2, none⟩ = some (.slice r2 d.ks.length rc2) ∧ w5.cell? ⟨b7, 3, none⟩ = some (.slice r3 d.vs.length rc3) ∧ w5.cell? ⟨b7, 4, none⟩ = some (.slice r4 d.cs.length rc4) ∧ w5.cell? ⟨b7, 5, none⟩ = some (.int .u64 d.laid) := by refine ⟨?_, ?_, ?_, ?_, ?_, ?_, ?_, ?_, ?_, ?_, ?_, ?_, ?_, ?_, ?_, ?_, ?_, ?_, ?_, ?_, ?_, ?_, ?_, ?_, ?_, ?_, ?_, ?_, ?_, ?_, ?_, ?_⟩ <;> (refine (hb5.cell ?_).trans ?_ <;> first | (first | (with_reducible assumption) | omega | (simp only [szW] <;> omega) | (simp <;> omega)) | (first | (with_reducible assumption) | ((try simp (disch := first | omega | (simp only [szW] <;> omega) | fail) only [ceW]) <;> first | (with_reducible assumption) | rfl)))
    have all_z : w.heap.size < w5.heap.size ∧ w.heap.size + 1 < w5.heap.size ∧ w.heap.size + 1 + 1 < w5.heap.size ∧ w.heap.size + 1 + 1 + 1 < w5.heap.size ∧ b5 < w5.heap.size ∧ b6 < w5.heap.size ∧ b7 < w5.heap.size := by refine ⟨?_, ?_, ?_, ?_, ?_, ?_, ?_⟩ <;> (omega)
    clear c_x0 c_x1 c_x2 c_a0 c_a1 c_a2 c_a3 c_a4 c_a5 c_b0 c_b1 c_b2 c_b3 c_b4 c_b5 c_k0 c_k1 c_p0 c_p1 c_p2 c_s0 c_s1 c_s2 c_s3 c_s4 c_s5 c_r0 c_r1 c_r2 c_r3 c_r4 c_r5 z_x z_a z_b z_k z_p z_s z_r
    obtain ⟨c_x0, c_x1, c_x2, c_a0, c_a1, c_a2, c_a3, c_a4, c_a5, c_b0, c_b1, c_b2, c_b3, c_b4, c_b5, c_k0, c_k1, c_p0, c_p1, c_p2, c_s0, c_s1, c_s2, c_s3, c_s4, c_s5, c_r0, c_r1, c_r2, c_r3, c_r4, c_r5⟩ := all_c
    try clear all_c
    obtain ⟨z_x, z_a, z_b, z_k, z_p, z_s, z_r⟩ := all_z
    try clear all_z
    obtain ⟨xa5, xc5, rfl, -⟩ := owns_news q1
    obtain ⟨ya5, yc5, rfl, -⟩ := owns_news q2
    have HQ1 := Lib.hid q1
    have HQ2 := Lib.hid q2
    have hB5 : Below w.heap.size w w5 := below_via hb5 hC2 (by omega)
    have hW5 : Below w4.heap.size w4 w5 := below_via hb5 hD2 (by omega)
    have hzv2 : w4.heap.size ≤ v2.heap.size := hD2.size
    clear q1 q2 hb5 WN4
    go_wp2_with fail
    refine (FR.out _ (by (repeat (first | with_reducible (first | exact Below.refl _ _ | assumption | exact Hid.out (by assumption) | refine Below.alloc ?_ ?_ _ | refine Below.setCell ?_ ?_ _ | refine below_drewN ?_ _ | refine Below.drew ?_ | refine below_via (by assumption) ?_ ?_) | (first | (with_reducible assumption) | omega | (simp only [szW] <;> omega) | (simp <;> omega)))))).mono ?_
    rintro e w6 ⟨v6, u6, rfl, q3, q4, hb6⟩
    have hz_w6 := hb6.size
    try simp only [World.size_alloc, World.size_setCell] at hz_w6
    have all_c : w6.cell? ⟨w.heap.size, 0, none⟩ = some (.int .i64 l) ∧ w6.cell? ⟨w.heap.size, 1, none⟩ = some (.slice ma ms.length mc) ∧ w6.cell? ⟨w.heap.size, 2, none⟩ = some (.slice ica cs.length icc) ∧ w6.cell? ⟨w.heap.size + 1, 0, none⟩ = some (.int .i64 c.seg) ∧ w6.cell? ⟨w.heap.size + 1, 1, none⟩ = some (.slice awa c.ws.length awc) ∧ w6.cell? ⟨w.heap.size + 1, 2, none⟩ = some (.slice aka c.ks.length akc) ∧ w6.cell? ⟨w.heap.size + 1, 3, none⟩ = some (.slice ava c.vs.length avc) ∧ w6.cell? ⟨w.heap.size + 1, 4, none⟩ = some (.slice aca c.cs.length acc) ∧ w6.cell? ⟨w.heap.size + 1, 5, none⟩ = some (.int .u64 c.laid) ∧ w6.cell? ⟨w.heap.size + 1 + 1, 0, none⟩ = some (.int .i64 d.seg) ∧ w6.cell? ⟨w.heap.size + 1 + 1, 1, none⟩ = some (.slice bwa d.ws.length bwc) ∧ w6.cell? ⟨w.heap.size + 1 + 1, 2, none⟩ = some (.slice bka d.ks.length bkc) ∧ w6.cell? ⟨w.heap.size + 1 + 1, 3, none⟩ = some (.slice bva d.vs.length bvc) ∧ w6.cell? ⟨w.heap.size + 1 + 1, 4, none⟩ = some (.slice bca d.cs.length bcc) ∧ w6.cell? ⟨w.heap.size + 1 + 1, 5, none⟩ = some (.int .u64 d.laid) ∧ w6.cell? ⟨w.heap.size + 1 + 1 + 1, 0, none⟩ = some (.int .i64 x0) ∧ w6.cell? ⟨w.heap.size + 1 + 1 + 1, 1, none⟩ = some (.int .i64 x1) ∧ w6.cell? ⟨b5, 0, none⟩ = some (.int .i64 l) ∧ w6.cell? ⟨b5, 1, none⟩ = some (.slice xa ms.length xc) ∧ w6.cell? ⟨b5, 2, none⟩ = some (.slice ya cs.length yc) ∧ w6.cell? ⟨b6, 0, none⟩ = some (.int .i64 c.seg) ∧ w6.cell? ⟨b6, 1, none⟩ = some (.slice p1 c.ws.length pc1) ∧ w6.cell? ⟨b6, 2, none⟩ = some (.slice p2 c.ks.length pc2) ∧ w6.cell? ⟨b6, 3, none⟩ = some (.slice p3 c.vs.length pc3) ∧ w6.cell? ⟨b6, 4, none⟩ = some (.slice p4 c.cs.length pc4) ∧ w6.cell? ⟨b6, 5, none⟩ = some (.int .u64 c.laid) ∧ w6.cell? ⟨b7, 0, none⟩ = some (.int .i64 d.seg) ∧ w6.cell? ⟨b7, 1, none⟩ = some (.slice r1 d.ws.length rc1) ∧ w6.cell? ⟨b7, 2, none⟩ = some (.slice r2 d.ks.length rc2) ∧ w6.cell? ⟨b7, 3, none⟩ = some (.slice r3 d.vs.length rc3) ∧ w6.cell? ⟨b7, 4, none⟩ = some (.slice r4 d.cs.length rc4) ∧ w6.cell? ⟨b7, 5, none⟩ = some (.int .u64 d.laid) ∧ w6.cell? ⟨w5.heap.size, 0, none⟩ = some (.int .i64 bL) ∧ w6.cell? ⟨w5.heap.size, 1, none⟩ = some (.slice xa5 bm.length xc5) ∧ w6.cell? ⟨w5.heap.size, 2, none⟩ = some (.slice ya5 bc.length yc5) := by refine ⟨?_, ?_, ?_, ?_, ?_, ?_, ?_, ?_, ?_, ?_, ?_, ?_, ?_, ?_, ?_, ?_, ?_, ?_, ?_, ?_, ?_, ?_, ?_, ?_, ?_, ?_, ?_, ?_, ?_, ?_, ?_, ?_, ?_, ?_, ?_⟩ <;> (refine (hb6.cell ?_).trans ?_ <;> first | (first | (with_reducible assumption) | omega | (simp only [szW] <;> omega) | (simp <;> omega)) | (first | (with_reducible assumption) | ((try simp (disch := first | omega | (simp only [szW] <;> omega) | fail) only [ceW]) <;> first | (with_reducible assumption) | rfl)))
    have all_z : w.heap.size < w6.heap.size ∧ w.heap.size + 1 < w6.heap.size ∧ w.heap.size + 1 + 1 < w6.heap.size ∧ w.heap.size + 1 + 1 + 1 < w6.heap.size ∧ b5 < w6.heap.size ∧ b6 < w6.heap.size ∧ b7 < w6.heap.size ∧ w5.heap.size < w6.heap.size := by refine ⟨?_, ?_, ?_, ?_, ?_, ?_, ?_, ?_⟩ <;> (omega)
    clear c_x0 c_x1 c_x2 c_a0 c_a1 c_a2 c_a3 c_a4 c_a5 c_b0 c_b1 c_b2 c_b3 c_b4 c_b5 c_k0 c_k1 c_p0 c_p1 c_p2 c_s0 c_s1 c_s2 c_s3 c_s4 c_s5 c_r0 c_r1 c_r2 c_r3 c_r4 c_r5 z_x z_a z_b z_k z_p z_s z_r
    obtain ⟨c_x0, c_x1, c_x2, c_a0, c_a1, c_a2, c_a3, c_a4, c_a5, c_b0, c_b1, c_b2, c_b3, c_b4, c_b5, c_k0, c_k1, c_p0, c_p1, c_p2, c_s0, c_s1, c_s2, c_s3, c_s4, c_s5, c_r0, c_r1, c_r2, c_r3, c_r4, c_r5, c_q0, c_q1, c_q2⟩ := all_c
    try clear all_c
    obtain ⟨z_x, z_a, z_b, z_k, z_p, z_s, z_r, z_q⟩ := all_z
    try clear all_z
    obtain ⟨xa6, xc6, rfl, -⟩ := owns_news q3
    obtain ⟨ya6, yc6, rfl, -⟩ := owns_news q4
    have h65 : Below w5.heap.size w5 w6 := below_via hb6 ((Below.refl _ _).alloc (Nat.le_refl _) _) (by simp)
    have hB6 : Below w.heap.size w w6 := below_via h65 hB5 (by omega)
    have hW6 : Below w4.heap.size w4 w6 := below_via h65 hW5 (by omega)
    have HQ3 := Lib.hid q3
    have HQ4 := Lib.hid q4
    clear q3 q4 hb6
    have hg : Below w6.heap.size w6 (w6.alloc (.cells #[.int .i64 bL, .slice xa6 bm.length xc6, .slice ya6 bc.length yc6] 25)) := (Below.refl _ _).alloc (Nat.le_refl _) _
    have hg5 := below_via hg h65 (by omega)
    have hgB := below_via hg hB6 (by omega)
    have hgW := below_via hg hW6 (by omega)
    have HQ18 := Lib.hid (owns_below HQ1.out hg5)
    have HQ28 := Lib.hid (owns_below HQ2.out hg5)
    have SB8 := Lib.hid (SB.out xa5 ya5 xa6 ya6 xc5 yc5 xc6 yc6 _ (by obtain ⟨a', c', h, h2, -⟩ := row_of_owns HQ18.out; cases h; exact h2) (by obtain ⟨a', c', h, h2, -⟩ := row_of_owns HQ28.out; cases h; exact h2) (by obtain ⟨a', c', h, h2, -⟩ := row_of_owns (owns_below HQ3.out hg); cases h; exact h2) (by obtain ⟨a', c', h, h2, -⟩ := row_of_owns (owns_below HQ4.out hg); cases h; exact h2))
    clear HQ3 HQ4 SB FR HQ1 HQ2 hg hg5 h65
    go_wp2_with fail
    refine (SB8.out).mono ?_
    rintro e w9 ⟨rfl, hb9⟩
    have hz_w9 := hb9.size
    try simp only [World.size_alloc, World.size_setCell] at hz_w9
    have all_c : w9.cell? ⟨w.heap.size, 0, none⟩ = some (.int .i64 l) ∧ w9.cell? ⟨w.heap.size, 1, none⟩ = some (.slice ma ms.length mc) ∧ w9.cell? ⟨w.heap.size, 2, none⟩ = some (.slice ica cs.length icc) ∧ w9.cell? ⟨w.heap.size + 1, 0, none⟩ = some (.int .i64 c.seg) ∧ w9.cell? ⟨w.heap.size + 1, 1, none⟩ = some (.slice awa c.ws.length awc) ∧ w9.cell? ⟨w.heap.size + 1, 2, none⟩ = some (.slice aka c.ks.length akc) ∧ w9.cell? ⟨w.heap.size + 1, 3, none⟩ = some (.slice ava c.vs.length avc) ∧ w9.cell? ⟨w.heap.size + 1, 4, none⟩ = some (.slice aca c.cs.length acc) ∧ w9.cell? ⟨w.heap.size + 1, 5, none⟩ = some (.int .u64 c.laid) ∧ w9.cell? ⟨w.heap.size + 1 + 1, 0, none⟩ = some (.int .i64 d.seg) ∧ w9.cell? ⟨w.heap.size + 1 + 1, 1, none⟩ = some (.slice bwa d.ws.length bwc) ∧ w9.cell? ⟨w.heap.size + 1 + 1, 2, none⟩ = some (.slice bka d.ks.length bkc) ∧ w9.cell? ⟨w.heap.size + 1 + 1, 3, none⟩ = some (.slice bva d.vs.length bvc) ∧ w9.cell? ⟨w.heap.size + 1 + 1, 4, none⟩ = some (.slice bca d.cs.length bcc) ∧ w9.cell? ⟨w.heap.size + 1 + 1, 5, none⟩ = some (.int .u64 d.laid) ∧ w9.cell? ⟨w.heap.size + 1 + 1 + 1, 0, none⟩ = some (.int .i64 x0) ∧ w9.cell? ⟨w.heap.size + 1 + 1 + 1, 1, none⟩ = some (.int .i64 x1) ∧ w9.cell? ⟨b5, 0, none⟩ = some (.int .i64 l) ∧ w9.cell? ⟨b5, 1, none⟩ = some (.slice xa ms.length xc) ∧ w9.cell? ⟨b5, 2, none⟩ = some (.slice ya cs.length yc) ∧ w9.cell? ⟨b6, 0, none⟩ = some (.int .i64 c.seg) ∧ w9.cell? ⟨b6, 1, none⟩ = some (.slice p1 c.ws.length pc1) ∧ w9.cell? ⟨b6, 2, none⟩ = some (.slice p2 c.ks.length pc2) ∧ w9.cell? ⟨b6, 3, none⟩ = some (.slice p3 c.vs.length pc3) ∧ w9.cell? ⟨b6, 4, none⟩ = some (.slice p4 c.cs.length pc4) ∧ w9.cell? ⟨b6, 5, none⟩ = some (.int .u64 c.laid) ∧ w9.cell? ⟨b7, 0, none⟩ = some (.int .i64 d.seg) ∧ w9.cell? ⟨b7, 1, none⟩ = some (.slice r1 d.ws.length rc1) ∧ w9.cell? ⟨b7, 2, none⟩ = some (.slice r2 d.ks.length rc2) ∧ w9.cell? ⟨b7, 3, none⟩ = some (.slice r3 d.vs.length rc3) ∧ w9.cell? ⟨b7, 4, none⟩ = some (.slice r4 d.cs.length rc4) ∧ w9.cell? ⟨b7, 5, none⟩ = some (.int .u64 d.laid) ∧ w9.cell? ⟨w5.heap.size, 0, none⟩ = some (.int .i64 bL) ∧ w9.cell? ⟨w5.heap.size, 1, none⟩ = some (.slice xa5 bm.length xc5) ∧ w9.cell? ⟨w5.heap.size, 2, none⟩ = some (.slice ya5 bc.length yc5) ∧ w9.cell? ⟨w6.heap.size, 0, none⟩ = some (.int .i64 bL) ∧ w9.cell? ⟨w6.heap.size, 1, none⟩ = some (.slice xa6 bm.length xc6) ∧ w9.cell? ⟨w6.heap.size, 2, none⟩ = some (.slice ya6 bc.length yc6) := by refine ⟨?_, ?_, ?_, ?_, ?_, ?_, ?_, ?_, ?_, ?_, ?_, ?_, ?_, ?_, ?_, ?_, ?_, ?_, ?_, ?_, ?_, ?_, ?_, ?_, ?_, ?_, ?_, ?_, ?_, ?_, ?_, ?_, ?_, ?_, ?_, ?_, ?_, ?_⟩ <;> (refine (hb9.cell ?_).trans ?_ <;> first | (first | (with_reducible assumption) | omega | (simp only [szW] <;> omega) | (simp <;> omega)) | (first | (with_reducible assumption) | ((try simp (disch := first | omega | (simp only [szW] <;> omega) | fail) only [ceW]) <;> first | (with_reducible assumption) | rfl)))
    have all_z : w.heap.size < w9.heap.size ∧ w.heap.size + 1 < w9.heap.size ∧ w.heap.size + 1 + 1 < w9.heap.size ∧ w.heap.size + 1 + 1 + 1 < w9.heap.size ∧ b5 < w9.heap.size ∧ b6 < w9.heap.size ∧ b7 < w9.heap.size ∧ w5.heap.size < w9.heap.size ∧ w6.heap.size < w9.heap.size := by refine ⟨?_, ?_, ?_, ?_, ?_, ?_, ?_, ?_, ?_⟩ <;> (omega)
    clear c_x0 c_x1 c_x2 c_a0 c_a1 c_a2 c_a3 c_a4 c_a5 c_b0 c_b1 c_b2 c_b3 c_b4 c_b5 c_k0 c_k1 c_p0 c_p1 c_p2 c_s0 c_s1 c_s2 c_s3 c_s4 c_s5 c_r0 c_r1 c_r2 c_r3 c_r4 c_r5 c_q0 c_q1 c_q2 z_x z_a z_b z_k z_p z_s z_r z_q
    obtain ⟨c_x0, c_x1, c_x2, c_a0, c_a1, c_a2, c_a3, c_a4, c_a5, c_b0, c_b1, c_b2, c_b3, c_b4, c_b5, c_k0, c_k1, c_p0, c_p1, c_p2, c_s0, c_s1, c_s2, c_s3, c_s4, c_s5, c_r0, c_r1, c_r2, c_r3, c_r4, c_r5, c_q0, c_q1, c_q2, c_g0, c_g1, c_g2⟩ := all_c
    try clear all_c
    obtain ⟨z_x, z_a, z_b, z_k, z_p, z_s, z_r, z_q, z_g⟩ := all_z
    try clear all_z
    have hB9 : Below w.heap.size w w9 := below_via hb9 hgB (by simp <;> omega)
    have hW9 : Below w4.heap.size w4 w9 := below_via hb9 hgW (by simp <;> omega)
    have hN1 : OwnR20 2 w4.heap.size xa5 bm.length xc5 w9 := ⟨bm, rfl, owns_base (owns_below HQ18.out hb9) (by omega)⟩
    have hN2 : OwnR20 3 w4.heap.size ya5 bc.length yc5 w9 := ⟨bc, rfl, owns_base (owns_below HQ28.out hb9) (by omega)⟩
    have hne : ∀ i j, (Value.slice xa5 bm.length xc5).ownBlock = some i → (Value.slice ya5 bc.length yc5).ownBlock = some j → i ≠ j := fun i j h1 h2 => by
      rcases owns_apart HQ18.out HQ28.out (by decide) with h | h
      · rw [h] at h1; cases h1
      · intro e; exact h (by rw [h1, h2, e])
    have hz49 : w4.heap.size ≤ w9.heap.size := by omega
    have HSPL := Lib.hid (spoil20_ok bL w4.heap.size xa5 ya5 bm.length xc5 bc.length yc5 w9 hN1 hN2 hne hz49 (by have := HUL.out.1; omega) (by have := HUL.out.2; omega))
    clear hN1 hN2 hne HQ18 HQ28 hb9 hgB hgW SB8 hB6 hW6
    go_wp2_with fail
    refine HSPL.out.mono ?_
    rintro e w10 ⟨⟨rv, rfl⟩, hb10⟩
    have hz_w10 := hb10.size
    try simp only [World.size_alloc, World.size_setCell] at hz_w10
    have all_c : w10.cell? ⟨w.heap.size, 0, none⟩ = some (.int .i64 l) ∧ w10.cell? ⟨w.heap.size, 1, none⟩ = some (.slice ma ms.length mc) ∧ w10.cell? ⟨w.heap.size, 2, none⟩ = some (.slice ica cs.length icc) ∧ w10.cell? ⟨w.heap.size + 1, 0, none⟩ = some (.int .i64 c.seg) ∧ w10.cell? ⟨w.heap.size + 1, 1, none⟩ = some (.slice awa c.ws.length awc) ∧ w10.cell? ⟨w.heap.size + 1, 2, none⟩ = some (.slice aka c.ks.length akc) ∧ w10.cell? ⟨w.heap.size + 1, 3, none⟩ = some (.slice ava c.vs.length avc) ∧ w10.cell? ⟨w.heap.size + 1, 4, none⟩ = some (.slice aca c.cs.length acc) ∧ w10.cell? ⟨w.heap.size + 1, 5, none⟩ = some (.int .u64 c.laid) ∧ w10.cell? ⟨w.heap.size + 1 + 1, 0, none⟩ = some (.int .i64 d.seg) ∧ w10.cell? ⟨w.heap.size + 1 + 1, 1, none⟩ = some (.slice bwa d.ws.length bwc) ∧ w10.cell? ⟨w.heap.size + 1 + 1, 2, none⟩ = some (.slice bka d.ks.length bkc) ∧ w10.cell? ⟨w.heap.size + 1 + 1, 3, none⟩ = some (.slice bva d.vs.length bvc) ∧ w10.cell? ⟨w.heap.size + 1 + 1, 4, none⟩ = some (.slice bca d.cs.length bcc) ∧ w10.cell? ⟨w.heap.size + 1 + 1, 5, none⟩ = some (.int .u64 d.laid) ∧ w10.cell? ⟨w.heap.size + 1 + 1 + 1, 0, none⟩ = some (.int .i64 x0) ∧ w10.cell? ⟨w.heap.size + 1 + 1 + 1, 1, none⟩ = some (.int .i64 x1) ∧ w10.cell? ⟨b5, 0, none⟩ = some (.int .i64 l) ∧ w10.cell? ⟨b5, 1, none⟩ = some (.slice xa ms.length xc) ∧ w10.cell? ⟨b5, 2, none⟩ = some (.slice ya cs.length yc) ∧ w10.cell? ⟨b6, 0, none⟩ = some (.int .i64 c.seg) ∧ w10.cell? ⟨b6, 1, none⟩ = some (.slice p1 c.ws.length pc1) ∧ w10.cell? ⟨b6, 2, none⟩ = some (.slice p2 c.ks.length pc2) ∧ w10.cell? ⟨b6, 3, none⟩ = some (.slice p3 c.vs.length pc3) ∧ w10.cell? ⟨b6, 4, none⟩ = some (.slice p4 c.cs.length pc4) ∧ w10.cell? ⟨b6, 5, none⟩ = some (.int .u64 c.laid) ∧ w10.cell? ⟨b7, 0, none⟩ = some (.int .i64 d.seg) ∧ w10.cell? ⟨b7, 1, none⟩ = some (.slice r1 d.ws.length rc1) ∧ w10.cell? ⟨b7, 2, none⟩ = some (.slice r2 d.ks.length rc2) ∧ w10.cell? ⟨b7, 3, none⟩ = some (.slice r3 d.vs.length rc3) ∧ w10.cell? ⟨b7, 4, none⟩ = some (.slice r4 d.cs.length rc4) ∧ w10.cell? ⟨b7, 5, none⟩ = some (.int .u64 d.laid) := by refine ⟨?_, ?_, ?_, ?_, ?_, ?_, ?_, ?_, ?_, ?_, ?_, ?_, ?_, ?_, ?_, ?_, ?_, ?_, ?_, ?_, ?_, ?_, ?_, ?_, ?_, ?_, ?_, ?_, ?_, ?_, ?_, ?_⟩ <;> (refine (hb10.cell ?_).trans ?_ <;> first | (first | (with_reducible assumption) | omega | (simp only [szW] <;> omega) | (simp <;> omega)) | (first | (with_reducible assumption) | ((try simp (disch := first | omega | (simp only [szW] <;> omega) | fail) only [ceW]) <;> first | (with_reducible assumption) | rfl)))
    have all_z : w.heap.size < w10.heap.size ∧ w.heap.size + 1 < w10.heap.size ∧ w.heap.size + 1 + 1 < w10.heap.size ∧ w.heap.size + 1 + 1 + 1 < w10.heap.size ∧ b5 < w10.heap.size ∧ b6 < w10.heap.size ∧ b7 < w10.heap.size := by refine ⟨?_, ?_, ?_, ?_, ?_, ?_, ?_⟩ <;> (omega)
    clear c_x0 c_x1 c_x2 c_a0 c_a1 c_a2 c_a3 c_a4 c_a5 c_b0 c_b1 c_b2 c_b3 c_b4 c_b5 c_k0 c_k1 c_p0 c_p1 c_p2 c_s0 c_s1 c_s2 c_s3 c_s4 c_s5 c_r0 c_r1 c_r2 c_r3 c_r4 c_r5 z_x z_a z_b z_k z_p z_s z_r
    obtain ⟨c_x0, c_x1, c_x2, c_a0, c_a1, c_a2, c_a3, c_a4, c_a5, c_b0, c_b1, c_b2, c_b3, c_b4, c_b5, c_k0, c_k1, c_p0, c_p1, c_p2, c_s0, c_s1, c_s2, c_s3, c_s4, c_s5, c_r0, c_r1, c_r2, c_r3, c_r4, c_r5⟩ := all_c
    try clear all_c
    obtain ⟨z_x, z_a, z_b, z_k, z_p, z_s, z_r⟩ := all_z
    try clear all_z
    have hB10 : Below w.heap.size w w10 := below_via hb10 hB9 (by omega)
    have hW10 : Below w4.heap.size w4 w10 := below_via hb10 hW9 (by omega)
    clear hb10 HSPL
    go_wp2_with fail
    refine (SI4.out _ hW10).mono ?_
    rintro e w11 ⟨rfl, hb11⟩
    have hz_w11 := hb11.size
    try simp only [World.size_alloc, World.size_setCell] at hz_w11
    have all_c : w11.cell? ⟨w.heap.size, 0, none⟩ = some (.int .i64 l) ∧ w11.cell? ⟨w.heap.size, 1, none⟩ = some (.slice ma ms.length mc) ∧ w11.cell? ⟨w.heap.size, 2, none⟩ = some (.slice ica cs.length icc) ∧ w11.cell? ⟨w.heap.size + 1, 0, none⟩ = some (.int .i64 c.seg) ∧ w11.cell? ⟨w.heap.size + 1, 1, none⟩ = some (.slice awa c.ws.length awc) ∧ w11.cell? ⟨w.heap.size + 1, 2, none⟩ = some (.slice aka c.ks.length akc) ∧ w11.cell? ⟨w.heap.size + 1, 3, none⟩ = some (.slice ava c.vs.length avc) ∧ w11.cell? ⟨w.heap.size + 1, 4, none⟩ = some (.slice aca c.cs.length acc) ∧ w11.cell? ⟨w.heap.size + 1, 5, none⟩ = some (.int .u64 c.laid) ∧ w11.cell? ⟨w.heap.size + 1 + 1, 0, none⟩ = some (.int .i64 d.seg) ∧ w11.cell? ⟨w.heap.size + 1 + 1, 1, none⟩ = some (.slice bwa d.ws.length bwc) ∧ w11.cell? ⟨w.heap.size + 1 + 1, 2, none⟩ = some (.slice bka d.ks.length bkc) ∧ w11.cell? ⟨w.heap.size + 1 + 1, 3, none⟩ = some (.slice bva d.vs.length bvc) ∧ w11.cell? ⟨w.heap.size + 1 + 1, 4, none⟩ = some (.slice bca d.cs.length bcc) ∧ w11.cell? ⟨w.heap.size + 1 + 1, 5, none⟩ = some (.int .u64 d.laid) ∧ w11.cell? ⟨w.heap.size + 1 + 1 + 1, 0, none⟩ = some (.int .i64 x0) ∧ w11.cell? ⟨w.heap.size + 1 + 1 + 1, 1, none⟩ = some (.int .i64 x1) ∧ w11.cell? ⟨b5, 0, none⟩ = some (.int .i64 l) ∧ w11.cell? ⟨b5, 1, none⟩ = some (.slice xa ms.length xc) ∧ w11.cell? ⟨b5, 2, none⟩ = some (.slice ya cs.length yc) ∧ w11.cell? ⟨b6, 0, none⟩ = some (.int .i64 c.seg) ∧ w11.cell? ⟨b6, 1, none⟩ = some (.slice p1 c.ws.length pc1) ∧ w11.cell? ⟨b6, 2, none⟩ = some (.slice p2 c.ks.length pc2) ∧ w11.cell? ⟨b6, 3, none⟩ = some (.slice p3 c.vs.length pc3) ∧ w11.cell? ⟨b6, 4, none⟩ = some (.slice p4 c.cs.length pc4) ∧ w11.cell? ⟨b6, 5, none⟩ = some (.int .u64 c.laid) ∧ w11.cell? ⟨b7, 0, none⟩ = some (.int .i64 d.seg) ∧ w11.cell? ⟨b7, 1, none⟩ = some (.slice r1 d.ws.length rc1) ∧ w11.cell? ⟨b7, 2, none⟩ = some (.slice r2 d.ks.length rc2) ∧ w11.cell? ⟨b7, 3, none⟩ = some (.slice r3 d.vs.length rc3) ∧ w11.cell? ⟨b7, 4, none⟩ = some (.slice r4 d.cs.length rc4) ∧ w11.cell? ⟨b7, 5, none⟩ = some (.int .u64 d.laid) := by refine ⟨?_, ?_, ?_, ?_, ?_, ?_, ?_, ?_, ?_, ?_, ?_, ?_, ?_, ?_, ?_, ?_, ?_, ?_, ?_, ?_, ?_, ?_, ?_, ?_, ?_, ?_, ?_, ?_, ?_, ?_, ?_, ?_⟩ <;> (refine (hb11.cell ?_).trans ?_ <;> first | (first | (with_reducible assumption) | omega | (simp only [szW] <;> omega) | (simp <;> omega)) | (first | (with_reducible assumption) | ((try simp (disch := first | omega | (simp only [szW] <;> omega) | fail) only [ceW]) <;> first | (with_reducible assumption) | rfl)))
    have all_z : w.heap.size < w11.heap.size ∧ w.heap.size + 1 < w11.heap.size ∧ w.heap.size + 1 + 1 < w11.heap.size ∧ w.heap.size + 1 + 1 + 1 < w11.heap.size ∧ b5 < w11.heap.size ∧ b6 < w11.heap.size ∧ b7 < w11.heap.size := by refine ⟨?_, ?_, ?_, ?_, ?_, ?_, ?_⟩ <;> (omega)
    clear c_x0 c_x1 c_x2 c_a0 c_a1 c_a2 c_a3 c_a4 c_a5 c_b0 c_b1 c_b2 c_b3 c_b4 c_b5 c_k0 c_k1 c_p0 c_p1 c_p2 c_s0 c_s1 c_s2 c_s3 c_s4 c_s5 c_r0 c_r1 c_r2 c_r3 c_r4 c_r5 z_x z_a z_b z_k z_p z_s z_r
    obtain ⟨c_x0, c_x1, c_x2, c_a0, c_a1, c_a2, c_a3, c_a4, c_a5, c_b0, c_b1, c_b2, c_b3, c_b4, c_b5, c_k0, c_k1, c_p0, c_p1, c_p2, c_s0, c_s1, c_s2, c_s3, c_s4, c_s5, c_r0, c_r1, c_r2, c_r3, c_r4, c_r5⟩ := all_c
    try clear all_c
    obtain ⟨z_x, z_a, z_b, z_k, z_p, z_s, z_r⟩ := all_z
    try clear all_z
    have hB11 : Below w.heap.size w w11 := below_via hb11 hB10 (by omega)
    have hW11 : Below w4.heap.size w4 w11 := below_via hb11 hW10 (by omega)
    go_wp2_with fail
    refine (SC4.out _ hW11).mono ?_
    rintro e w12 ⟨rfl, hb12⟩
    have hz_w12 := hb12.size
    try simp only [World.size_alloc, World.size_setCell] at hz_w12
    have all_c : w12.cell? ⟨w.heap.size, 0, none⟩ = some (.int .i64 l) ∧ w12.cell? ⟨w.heap.size, 1, none⟩ = some (.slice ma ms.length mc) ∧ w12.cell? ⟨w.heap.size, 2, none⟩ = some (.slice ica cs.length icc) ∧ w12.cell? ⟨w.heap.size + 1, 0, none⟩ = some (.int .i64 c.seg) ∧ w12.cell? ⟨w.heap.size + 1, 1, none⟩ = some (.slice awa c.ws.length awc) ∧ w12.cell? ⟨w.heap.size + 1, 2, none⟩ = some (.slice aka c.ks.length akc) ∧ w12.cell? ⟨w.heap.size + 1, 3, none⟩ = some (.slice ava c.vs.length avc) ∧ w12.cell? ⟨w.heap.size + 1, 4, none⟩ = some (.slice aca c.cs.length acc) ∧ w12.cell? ⟨w.heap.size + 1, 5, none⟩ = some (.int .u64 c.laid) ∧ w12.cell? ⟨w.heap.size + 1 + 1, 0, none⟩ = some (.int .i64 d.seg) ∧ w12.cell? ⟨w.heap.size + 1 + 1, 1, none⟩ = some (.slice bwa d.ws.length bwc) ∧ w12.cell? ⟨w.heap.size + 1 + 1, 2, none⟩ = some (.slice bka d.ks.length bkc) ∧ w12.cell? ⟨w.heap.size + 1 + 1, 3, none⟩ = some (.slice bva d.vs.length bvc) ∧ w12.cell? ⟨w.heap.size + 1 + 1, 4, none⟩ = some (.slice bca d.cs.length bcc) ∧ w12.cell? ⟨w.heap.size + 1 + 1, 5, none⟩ = some (.int .u64 d.laid) ∧ w12.cell? ⟨w.heap.size + 1 + 1 + 1, 0, none⟩ = some (.int .i64 x0) ∧ w12.cell? ⟨w.heap.size + 1 + 1 + 1, 1, none⟩ = some (.int .i64 x1) ∧ w12.cell? ⟨b5, 0, none⟩ = some (.int .i64 l) ∧ w12.cell? ⟨b5, 1, none⟩ = some (.slice xa ms.length xc) ∧ w12.cell? ⟨b5, 2, none⟩ = some (.slice ya cs.length yc) ∧ w12.cell? ⟨b6, 0, none⟩ = some (.int .i64 c.seg) ∧ w12.cell? ⟨b6, 1, none⟩ = some (.slice p1 c.ws.length pc1) ∧ w12.cell? ⟨b6, 2, none⟩ = some (.slice p2 c.ks.length pc2) ∧ w12.cell? ⟨b6, 3, none⟩ = some (.slice p3 c.vs.length pc3) ∧ w12.cell? ⟨b6, 4, none⟩ = some (.slice p4 c.cs.length pc4) ∧ w12.cell? ⟨b6, 5, none⟩ = some (.int .u64 c.laid) ∧ w12.cell? ⟨b7, 0, none⟩ = some (.int .i64 d.seg) ∧ w12.cell? ⟨b7, 1, none⟩ = some (.slice r1 d.ws.length rc1) ∧ w12.cell? ⟨b7, 2, none⟩ = some (.slice r2 d.ks.length rc2) ∧ w12.cell? ⟨b7, 3, none⟩ = some (.slice r3 d.vs.length rc3) ∧ w12.cell? ⟨b7, 4, none⟩ = some (.slice r4 d.cs.length rc4) ∧ w12.cell? ⟨b7, 5, none⟩ = some (.int .u64 d.laid) := by refine ⟨?_, ?_, ?_, ?_, ?_, ?_, ?_, ?_, ?_, ?_, ?_, ?_, ?_, ?_, ?_, ?_, ?_, ?_, ?_, ?_, ?_, ?_, ?_, ?_, ?_, ?_, ?_, ?_, ?_, ?_, ?_, ?_⟩ <;> (refine (hb12.cell ?_).trans ?_ <;> first | (first | (with_reducible assumption) | omega | (simp only [szW] <;> omega) | (simp <;> omega)) | (first | (with_reducible assumption) | ((try simp (disch := first | omega | (simp only [szW] <;> omega) | fail) only [ceW]) <;> first | (with_reducible assumption) | rfl)))
    have all_z : w.heap.size < w12.heap.size ∧ w.heap.size + 1 < w12.heap.size ∧ w.heap.size + 1 + 1 < w12.heap.size ∧ w.heap.size + 1 + 1 + 1 < w12.heap.size ∧ b5 < w12.heap.size ∧ b6 < w12.heap.size ∧ b7 < w12.heap.size := by refine ⟨?_, ?_, ?_, ?_, ?_, ?_, ?_⟩ <;> (omega)
    clear c_x0 c_x1 c_x2 c_a0 c_a1 c_a2 c_a3 c_a4 c_a5 c_b0 c_b1 c_b2 c_b3 c_b4 c_b5 c_k0 c_k1 c_p0 c_p1 c_p2 c_s0 c_s1 c_s2 c_s3 c_s4 c_s5 c_r0 c_r1 c_r2 c_r3 c_r4 c_r5 z_x z_a z_b z_k z_p z_s z_r
    obtain ⟨c_x0, c_x1, c_x2, c_a0, c_a1, c_a2, c_a3, c_a4, c_a5, c_b0, c_b1, c_b2, c_b3, c_b4, c_b5, c_k0, c_k1, c_p0, c_p1, c_p2, c_s0, c_s1, c_s2, c_s3, c_s4, c_s5, c_r0, c_r1, c_r2, c_r3, c_r4, c_r5⟩ := all_c
    try clear all_c
    obtain ⟨z_x, z_a, z_b, z_k, z_p, z_s, z_r⟩ := all_z
    try clear all_z
    have hB12 : Below w.heap.size w w12 := below_via hb12 hB11 (by omega)
    have hW12 : Below w4.heap.size w4 w12 := below_via hb12 hW11 (by omega)
    go_wp2_with fail
    refine (SD4.out _ hW12).mono ?_
    rintro e w13 ⟨rfl, hb13⟩
    have hz_w13 := hb13.size
    try simp only [World.size_alloc, World.size_setCell] at hz_w13
    have all_c : w13.cell? ⟨w.heap.size, 0, none⟩ = some (.int .i64 l) ∧ w13.cell? ⟨w.heap.size, 1, none⟩ = some (.slice ma ms.length mc) ∧ w13.cell? ⟨w.heap.size, 2, none⟩ = some (.slice ica cs.length icc) ∧ w13.cell? ⟨w.heap.size + 1, 0, none⟩ = some (.int .i64 c.seg) ∧ w13.cell? ⟨w.heap.size + 1, 1, none⟩ = some (.slice awa c.ws.length awc) ∧ w13.cell? ⟨w.heap.size + 1, 2, none⟩ = some (.slice aka c.ks.length akc) ∧ w13.cell? ⟨w.heap.size + 1, 3, none⟩ = some (.slice ava c.vs.length avc) ∧ w13.cell? ⟨w.heap.size + 1, 4, none⟩ = some (.slice aca c.cs.length acc) ∧ w13.cell? ⟨w.heap.size + 1, 5, none⟩ = some (.int .u64 c.laid) ∧ w13.cell? ⟨w.heap.size + 1 + 1, 0, none⟩ = some (.int .i64 d.seg) ∧ w13.cell? ⟨w.heap.size + 1 + 1, 1, none⟩ = some (.slice bwa d.ws.length bwc) ∧ w13.cell? ⟨w.heap.size + 1 + 1, 2, none⟩ = some (.slice bka d.ks.length bkc) ∧ w13.cell? ⟨w.heap.size + 1 + 1, 3, none⟩ = some (.slice bva d.vs.length bvc) ∧ w13.cell? ⟨w.heap.size + 1 + 1, 4, none⟩ = some (.slice bca d.cs.length bcc) ∧ w13.cell? ⟨w.heap.size + 1 + 1, 5, none⟩ = some (.int .u64 d.laid) ∧ w13.cell? ⟨w.heap.size + 1 + 1 + 1, 0, none⟩ = some (.int .i64 x0) ∧ w13.cell? ⟨w.heap.size + 1 + 1 + 1, 1, none⟩ = some (.int .i64 x1) ∧ w13.cell? ⟨b5, 0, none⟩ = some (.int .i64 l) ∧ w13.cell? ⟨b5, 1, none⟩ = some (.slice xa ms.length xc) ∧ w13.cell? ⟨b5, 2, none⟩ = some (.slice ya cs.length yc) ∧ w13.cell? ⟨b6, 0, none⟩ = some (.int .i64 c.seg) ∧ w13.cell? ⟨b6, 1, none⟩ = some (.slice p1 c.ws.length pc1) ∧ w13.cell? ⟨b6, 2, none⟩ = some (.slice p2 c.ks.length pc2) ∧ w13.cell? ⟨b6, 3, none⟩ = some (.slice p3 c.vs.length pc3) ∧ w13.cell? ⟨b6, 4, none⟩ = some (.slice p4 c.cs.length pc4) ∧ w13.cell? ⟨b6, 5, none⟩ = some (.int .u64 c.laid) ∧ w13.cell? ⟨b7, 0, none⟩ = some (.int .i64 d.seg) ∧ w13.cell? ⟨b7, 1, none⟩ = some (.slice r1 d.ws.length rc1) ∧ w13.cell? ⟨b7, 2, none⟩ = some (.slice r2 d.ks.length rc2) ∧ w13.cell? ⟨b7, 3, none⟩ = some (.slice r3 d.vs.length rc3) ∧ w13.cell? ⟨b7, 4, none⟩ = some (.slice r4 d.cs.length rc4) ∧ w13.cell? ⟨b7, 5, none⟩ = some (.int .u64 d.laid) := by refine ⟨?_, ?_, ?_, ?_, ?_, ?_, ?_, ?_, ?_, ?_, ?_, ?_, ?_, ?_, ?_, ?_, ?_, ?_, ?_, ?_, ?_, ?_, ?_, ?_, ?_, ?_, ?_, ?_, ?_, ?_, ?_, ?_⟩ <;> (refine (hb13.cell ?_).trans ?_ <;> first | (first | (with_reducible assumption) | omega | (simp only [szW] <;> omega) | (simp <;> omega)) | (first | (with_reducible assumption) | ((try simp (disch := first | omega | (simp only [szW] <;> omega) | fail) only [ceW]) <;> first | (with_reducible assumption) | rfl)))
    have all_z : w.heap.size < w13.heap.size ∧ w.heap.size + 1 < w13.heap.size ∧ w.heap.size + 1 + 1 < w13.heap.size ∧ w.heap.size + 1 + 1 + 1 < w13.heap.size ∧ b5 < w13.heap.size ∧ b6 < w13.heap.size ∧ b7 < w13.heap.size := by refine ⟨?_, ?_, ?_, ?_, ?_, ?_, ?_⟩ <;> (omega)
    clear c_x0 c_x1 c_x2 c_a0 c_a1 c_a2 c_a3 c_a4 c_a5 c_b0 c_b1 c_b2 c_b3 c_b4 c_b5 c_k0 c_k1 c_p0 c_p1 c_p2 c_s0 c_s1 c_s2 c_s3 c_s4 c_s5 c_r0 c_r1 c_r2 c_r3 c_r4 c_r5 z_x z_a z_b z_k z_p z_s z_r
    obtain ⟨c_x0, c_x1, c_x2, c_a0, c_a1, c_a2, c_a3, c_a4, c_a5, c_b0, c_b1, c_b2, c_b3, c_b4, c_b5, c_k0, c_k1, c_p0, c_p1, c_p2, c_s0, c_s1, c_s2, c_s3, c_s4, c_s5, c_r0, c_r1, c_r2, c_r3, c_r4, c_r5⟩ := all_c
    try clear all_c
    obtain ⟨z_x, z_a, z_b, z_k, z_p, z_s, z_r⟩ := all_z
    try clear all_z
    have hB13 : Below w.heap.size w w13 := below_via hb13 hB12 (by omega)
    go_wp2
    go_ret
    exact ⟨rfl, hB13⟩

theorem MendTells_walk (w : World) (l : Int) (ma ica : Option Addr) (mc icc : Nat) (ms cs : List Int) (hm : IsRow .i64 w ma ms) (hc : IsRow .i64 w ica cs) (hmn : ma = none → mc = 0) (hcn : ica = none → icc = 0) (hlm : ms.length ≤ maxLen) (hlc : cs.length ≤ maxLen)
    (c : SlC) (a : SlA) (hin : SlIn w c a) (za1 : a.wa = none → a.wc = 0) (za2 : a.ka = none → a.kc = 0) (za3 : a.va = none → a.vc = 0) (za4 : a.ca = none → a.cc = 0)
    (d : SlC) (b : SlA) (hin2 : SlIn w d b) (zb1 : b.wa = none → b.wc = 0) (zb2 : b.ka = none → b.kc = 0) (zb3 : b.va = none → b.vc = 0) (zb4 : b.ca = none → b.cc = 0) (x0 x1 : Int) :
    Calls Try.prog 3 #[ixV l ma ms.length mc ica cs.length icc, slV c a, slV d b, .agg #[.int .i64 x0, .int .i64 x1]] w fun e w' => e = .returned (.bool true) ∧ Below w.heap.size w w' := by
  have G4 : ∀ (c : SlC) (a : SlA), Hid (∀ W, Calls Try.prog 10 #[slV c a, .int .i64 600] W (AnsB W (.bool (gr4 600 c.ks.length c.vs.length c.ws.length c.cs.length)))) := fun c a => Lib.hid (fun W => Great04_ok c.seg a.wa a.ka a.va a.ca a.wc a.kc a.vc a.cc c.ws.length c.ks.length c.vs.length c.cs.length c.laid 600 W)
  have g1 := G4 c a
  have g2 := G4 d b
  by_cases h1 : ms.length ≤ 600 ∧ cs.length ≤ 600
  · have G1 := Lib.hid (fun W => Great18_no l ma ica ms.length mc cs.length icc h1.1 h1.2 W)
    by_cases h2 : c.ws.length ≤ 600 ∧ c.ks.length ≤ 600 ∧ c.vs.length ≤ 600 ∧ c.cs.length ≤ 600
    · rw [show gr4 600 c.ks.length c.vs.length c.ws.length c.cs.length = false by simp [gr4]; omega] at g1
      by_cases h3 : d.ws.length ≤ 600 ∧ d.ks.length ≤ 600 ∧ d.vs.length ≤ 600 ∧ d.cs.length ≤ 600
      · rw [show gr4 600 d.ks.length d.vs.length d.ws.length d.cs.length = false by simp [gr4]; omega] at g2
        have hwl : (wndM l ms cs d x0 x1).length ≤ 100000 ∧ (wndC l ms cs d x0 x1).length ≤ 100000 := wnd_len l ms cs d x0 x1
        exact MTl_in l ma ica mc icc ms cs c d a.wa a.ka a.va a.ca b.wa b.ka b.va b.ca a.wc a.kc a.vc a.cc b.wc b.kc b.vc b.cc x0 x1 w (wndL l ms cs d x0 x1) (wndE l ms cs d x0 x1) (tuV c d).1 (tuV c d).2.1 (tuV c d).2.2 (wndM l ms cs d x0 x1) (wndC l ms cs d x0 x1) hwl (Lib.hid hin.u) (Lib.hid hin2.u) G1 g1 g2
          (Lib.hid fun W hb => Twin18_ok l ma ica mc icc ms cs W (hm.below hb) (hc.below hb) (by omega) (by omega) (fun e => ⟨by subst e; rw [row_none hm]; rfl, hmn e⟩) (fun e => ⟨by subst e; rw [row_none hc]; rfl, hcn e⟩))
          (Lib.hid fun W hb => Twin04_ok c a W (hin.below hb) (by omega) (by omega) (by omega) (by omega) za1 za2 za3 za4)
          (Lib.hid fun W hb => Twin04_ok d b W (hin2.below hb) (by omega) (by omega) (by omega) (by omega) zb1 zb2 zb3 zb4)
          (Lib.hid fun a2 b2 W h3 h4 q1 q2 q3 q4 => Turned_ok c d a2 b2 (by omega) (by omega) (by omega) (by omega) W h3 h4 q1 q2 q3 q4)
          (Lib.hid fun W hb => Turned20_ok c d a b (by omega) (by omega) (by omega) (by omega) W (hin.below hb) (hin2.below hb))
          (Lib.hid fun xa ya xc yc b2 W h1 h2 h3 => Window_ok l xa ya xc yc ms cs d b2 x0 x1 (by omega) (by omega) W h3 h1 h2 (by omega) (by omega))
          (Lib.hid fun W hb => Window20_ok l ma ica mc icc ms cs d b x0 x1 (by omega) (by omega) W (hin2.below hb) (hm.below hb) (hc.below hb) (by omega) (by omega) hmn hcn)
          (Lib.hid fun xa ya xc yc W hb k1 k2 => by
            have := Same18_ix l l xa ya ma ica xc yc mc icc ms cs ms cs W k1 k2 (hm.below hb) (hc.below hb) (by omega) (by omega)
            rw [show ixEq l ms cs l ms cs = true by simp [ixEq]] at this
            exact this)
          (Lib.hid fun a2 W hb k => Same04_eq c a2 a W k (hin.below hb) (by omega) (by omega) (by omega) (by omega))
          (Lib.hid fun a2 W hb k => Same04_eq d a2 b W k (hin2.below hb) (by omega) (by omega) (by omega) (by omega))
          (Lib.hid fun xa xb ya yb xc xd yc yd W k1 k2 k3 k4 => by
            have := Same18_ix (wndL l ms cs d x0 x1) (wndL l ms cs d x0 x1) xa xb ya yb xc xd yc yd (wndM l ms cs d x0 x1) (wndC l ms cs d x0 x1) (wndM l ms cs d x0 x1) (wndC l ms cs d x0 x1) W k1 k2 k3 k4 hwl.1 hwl.2
            rw [show ixEq (wndL l ms cs d x0 x1) (wndM l ms cs d x0 x1) (wndC l ms cs d x0 x1) (wndL l ms cs d x0 x1) (wndM l ms cs d x0 x1) (wndC l ms cs d x0 x1) = true by simp [ixEq]] at this
            exact this)
      · rw [show gr4 600 d.ks.length d.vs.length d.ws.length d.cs.length = true by simp [gr4]; omega] at g2
        exact MTl_great3 l ma ica mc icc ms.length cs.length c.seg a.wa a.ka a.va a.ca a.wc a.kc a.vc a.cc c.ws.length c.ks.length c.vs.length c.cs.length c.laid d.seg b.wa b.ka b.va b.ca b.wc b.kc b.vc b.cc d.ws.length d.ks.length d.vs.length d.cs.length d.laid x0 x1 w G1 g1 g2
    · rw [show gr4 600 c.ks.length c.vs.length c.ws.length c.cs.length = true by simp [gr4]; omega] at g1
      exact MTl_great2 l ma ica mc icc ms.length cs.length c.seg a.wa a.ka a.va a.ca a.wc a.kc a.vc a.cc c.ws.length c.ks.length c.vs.length c.cs.length c.laid d.seg b.wa b.ka b.va b.ca b.wc b.kc b.vc b.cc d.ws.length d.ks.length d.vs.length d.cs.length d.laid x0 x1 w G1 g1
  · have G1 := Lib.hid (fun W => Great18_yes l ma ica ms.length mc cs.length icc (by omega) W)
    exact MTl_great1 l ma ica mc icc ms.length cs.length c.seg a.wa a.ka a.va a.ca a.wc a.kc a.vc a.cc c.ws.length c.ks.length c.vs.length c.cs.length c.laid d.seg b.wa b.ka b.va b.ca b.wc b.kc b.vc b.cc d.ws.length d.ks.length d.vs.length d.cs.length d.laid x0 x1 w G1
end Go.Proofs.Ytbmibaafkgleeaa
