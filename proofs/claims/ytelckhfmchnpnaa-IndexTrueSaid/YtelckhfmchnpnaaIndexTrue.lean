/-
  IndexTrue: each node of an array's index tells the count and the greatest key of the segments under it.
  No condition.
-/
import Derived.Test.YtelckhfmchnpnaaAlvSum
import Derived.Test.YtelckhfmchnpnaaIdxLaw
import Derived.Test.YtelckhfmchnpnaaHeapUnder
namespace Go.Proofs.Ytelckhfmchnpnaa
open Go.RowKit
set_option linter.unusedVariables false
set_option linter.unusedSimpArgs false

theorem Under_b (l n : Int) (W : World) : Calls Try.prog 31 #[.int .i64 l, .int .i64 n] W (AnsB W (.tuple #[.int .i64 (unA l n), .int .i64 (unB l n), .int .i64 (ndE l n)])) :=
  (Under_any l n W).mono fun e w' ⟨he, k, hw⟩ => ⟨he, hw ▸ below_drewN (Below.refl _ _) k⟩
theorem True_great (seg : Int) (wa ka va ca : Option Addr) (wc kc vc cc lw lk lv lc : Nat) (laid n : Int) (w : World) (GR : Hid (∀ W, Calls Try.prog 19 #[.agg #[.int .i64 seg, .slice wa lw wc, .slice ka lk kc, .slice va lv vc, .slice ca lc cc, .int .u64 laid], .int .i64 600] W (AnsB W (.bool true)))) :
    Calls Try.prog 8 #[.agg #[.int .i64 seg, .slice wa lw wc, .slice ka lk kc, .slice va lv vc, .slice ca lc cc, .int .u64 laid], .int .i64 n] w (AnsB w (.bool true)) := by
  have AL := Lib.hid alive_ok
  go_enter Try.func8, Try.ntmps8
  go_wp2_with fail
  refine (AL.out _).mono ?_
  rintro e w1 ⟨rfl, hb1⟩
  have hz_w1 := hb1.size
  try simp only [World.size_alloc, World.size_setCell] at hz_w1
  have all_c : w1.cell? ⟨w.heap.size, 0, none⟩ = some (.int .i64 seg) ∧ w1.cell? ⟨w.heap.size, 1, none⟩ = some (.slice wa lw wc) ∧ w1.cell? ⟨w.heap.size, 2, none⟩ = some (.slice ka lk kc) ∧ w1.cell? ⟨w.heap.size, 3, none⟩ = some (.slice va lv vc) ∧ w1.cell? ⟨w.heap.size, 4, none⟩ = some (.slice ca lc cc) ∧ w1.cell? ⟨w.heap.size, 5, none⟩ = some (.int .u64 laid) := by refine ⟨?_, ?_, ?_, ?_, ?_, ?_⟩ <;> (refine (hb1.cell ?_).trans ?_ <;> first | (first | (with_reducible assumption) | omega | (simp only [World.size_alloc, World.size_setCell, World.size_drew, World.heap_drewN] <;> omega) | (simp <;> omega)) | (first | (with_reducible assumption) | ((try simp (disch := first | omega | (simp only [World.size_alloc, World.size_setCell, World.size_drew, World.heap_drewN] <;> omega) | fail) only [World.cell?_alloc_past, World.cell?_alloc_at, World.frozen?_alloc_past, World.frozen?_alloc_at, World.frozen?_setCell, World.cell?_drew, World.frozen?_drew]) <;> first | (with_reducible assumption) | rfl)))
  have all_z : w.heap.size < w1.heap.size := by omega
  obtain ⟨c_s0, c_s1, c_s2, c_s3, c_s4, c_s5⟩ := all_c
  try clear all_c
  have z_s := all_z
  try clear all_z
  have hB1 : Below w.heap.size w w1 := by (repeat (first | (with_reducible exact Below.refl _ _) | (with_reducible assumption) | (with_reducible exact Hid.out (by with_reducible assumption)) | (with_reducible refine Below.alloc ?_ ?_ _) | (with_reducible refine Below.setCell ?_ ?_ _) | (with_reducible refine below_drewN ?_ _) | (with_reducible refine Below.drew ?_) | (with_reducible refine below_via (by with_reducible assumption) ?_ ?_) | (first | (with_reducible assumption) | omega | (simp only [World.size_alloc, World.size_setCell, World.size_drew, World.heap_drewN] <;> omega) | (simp <;> omega))))
  go_wp2_with fail
  refine (GR.out _).mono ?_
  rintro e w2 ⟨rfl, hb2⟩
  have hz_w2 := hb2.size
  try simp only [World.size_alloc, World.size_setCell] at hz_w2
  have all_c : w2.cell? ⟨w.heap.size, 0, none⟩ = some (.int .i64 seg) ∧ w2.cell? ⟨w.heap.size, 1, none⟩ = some (.slice wa lw wc) ∧ w2.cell? ⟨w.heap.size, 2, none⟩ = some (.slice ka lk kc) ∧ w2.cell? ⟨w.heap.size, 3, none⟩ = some (.slice va lv vc) ∧ w2.cell? ⟨w.heap.size, 4, none⟩ = some (.slice ca lc cc) ∧ w2.cell? ⟨w.heap.size, 5, none⟩ = some (.int .u64 laid) := by refine ⟨?_, ?_, ?_, ?_, ?_, ?_⟩ <;> (refine (hb2.cell ?_).trans ?_ <;> first | (first | (with_reducible assumption) | omega | (simp only [World.size_alloc, World.size_setCell, World.size_drew, World.heap_drewN] <;> omega) | (simp <;> omega)) | (first | (with_reducible assumption) | ((try simp (disch := first | omega | (simp only [World.size_alloc, World.size_setCell, World.size_drew, World.heap_drewN] <;> omega) | fail) only [World.cell?_alloc_past, World.cell?_alloc_at, World.frozen?_alloc_past, World.frozen?_alloc_at, World.frozen?_setCell, World.cell?_drew, World.frozen?_drew]) <;> first | (with_reducible assumption) | rfl)))
  have all_z : w.heap.size < w2.heap.size := by omega
  clear c_s0 c_s1 c_s2 c_s3 c_s4 c_s5 z_s
  obtain ⟨c_s0, c_s1, c_s2, c_s3, c_s4, c_s5⟩ := all_c
  try clear all_c
  have z_s := all_z
  try clear all_z
  have hB2 : Below w.heap.size w w2 := by (repeat (first | (with_reducible exact Below.refl _ _) | (with_reducible assumption) | (with_reducible exact Hid.out (by with_reducible assumption)) | (with_reducible refine Below.alloc ?_ ?_ _) | (with_reducible refine Below.setCell ?_ ?_ _) | (with_reducible refine below_drewN ?_ _) | (with_reducible refine Below.drew ?_) | (with_reducible refine below_via (by with_reducible assumption) ?_ ?_) | (first | (with_reducible assumption) | omega | (simp only [World.size_alloc, World.size_setCell, World.size_drew, World.heap_drewN] <;> omega) | (simp <;> omega))))
  go_wp2
  go_ret
  exact ⟨rfl, hB2⟩

theorem True_no (seg : Int) (wa ka va ca : Option Addr) (wc kc vc cc lw lk lv lc : Nat) (laid n L x : Int) (bm bc : List Int) (hx : x ≠ 0) (hm : bm = []) (w : World) (GR : Hid (∀ W, Calls Try.prog 19 #[.agg #[.int .i64 seg, .slice wa lw wc, .slice ka lk kc, .slice va lv vc, .slice ca lc cc, .int .u64 laid], .int .i64 600] W (AnsB W (.bool false))))
    (BI : Hid (∀ W, Below w.heap.size w W → Calls Try.prog 21 #[.agg #[.int .i64 seg, .slice wa lw wc, .slice ka lk kc, .slice va lv vc, .slice ca lc cc, .int .u64 laid]] W (FreshIx2 W L bm bc (.int .i64 x)))) :
    Calls Try.prog 8 #[.agg #[.int .i64 seg, .slice wa lw wc, .slice ka lk kc, .slice va lv vc, .slice ca lc cc, .int .u64 laid], .int .i64 n] w (AnsB w (.bool true)) := by
  have AL := Lib.hid alive_ok
  have g1 : (x != 0) = true := by simpa using hx
  have HM : Hid (bm.length = 0) := Lib.hid (by rw [hm]; rfl)
  clear hx hm
  go_enter Try.func8, Try.ntmps8
  go_wp2_with fail
  refine (AL.out _).mono ?_
  rintro e w1 ⟨rfl, hb1⟩
  have hz_w1 := hb1.size
  try simp only [World.size_alloc, World.size_setCell] at hz_w1
  have all_c : w1.cell? ⟨w.heap.size, 0, none⟩ = some (.int .i64 seg) ∧ w1.cell? ⟨w.heap.size, 1, none⟩ = some (.slice wa lw wc) ∧ w1.cell? ⟨w.heap.size, 2, none⟩ = some (.slice ka lk kc) ∧ w1.cell? ⟨w.heap.size, 3, none⟩ = some (.slice va lv vc) ∧ w1.cell? ⟨w.heap.size, 4, none⟩ = some (.slice ca lc cc) ∧ w1.cell? ⟨w.heap.size, 5, none⟩ = some (.int .u64 laid) := by refine ⟨?_, ?_, ?_, ?_, ?_, ?_⟩ <;> (refine (hb1.cell ?_).trans ?_ <;> first | (first | (with_reducible assumption) | omega | (simp only [World.size_alloc, World.size_setCell, World.size_drew, World.heap_drewN] <;> omega) | (simp <;> omega)) | (first | (with_reducible assumption) | ((try simp (disch := first | omega | (simp only [World.size_alloc, World.size_setCell, World.size_drew, World.heap_drewN] <;> omega) | fail) only [World.cell?_alloc_past, World.cell?_alloc_at, World.frozen?_alloc_past, World.frozen?_alloc_at, World.frozen?_setCell, World.cell?_drew, World.frozen?_drew]) <;> first | (with_reducible assumption) | rfl)))
  have all_z : w.heap.size < w1.heap.size := by omega
  obtain ⟨c_s0, c_s1, c_s2, c_s3, c_s4, c_s5⟩ := all_c
  try clear all_c
  have z_s := all_z
  try clear all_z
  have hB1 : Below w.heap.size w w1 := by (repeat (first | (with_reducible exact Below.refl _ _) | (with_reducible assumption) | (with_reducible exact Hid.out (by with_reducible assumption)) | (with_reducible refine Below.alloc ?_ ?_ _) | (with_reducible refine Below.setCell ?_ ?_ _) | (with_reducible refine below_drewN ?_ _) | (with_reducible refine Below.drew ?_) | (with_reducible refine below_via (by with_reducible assumption) ?_ ?_) | (first | (with_reducible assumption) | omega | (simp only [World.size_alloc, World.size_setCell, World.size_drew, World.heap_drewN] <;> omega) | (simp <;> omega))))
  go_wp2_with fail
  refine (GR.out _).mono ?_
  rintro e w2 ⟨rfl, hb2⟩
  have hz_w2 := hb2.size
  try simp only [World.size_alloc, World.size_setCell] at hz_w2
  have all_c : w2.cell? ⟨w.heap.size, 0, none⟩ = some (.int .i64 seg) ∧ w2.cell? ⟨w.heap.size, 1, none⟩ = some (.slice wa lw wc) ∧ w2.cell? ⟨w.heap.size, 2, none⟩ = some (.slice ka lk kc) ∧ w2.cell? ⟨w.heap.size, 3, none⟩ = some (.slice va lv vc) ∧ w2.cell? ⟨w.heap.size, 4, none⟩ = some (.slice ca lc cc) ∧ w2.cell? ⟨w.heap.size, 5, none⟩ = some (.int .u64 laid) := by refine ⟨?_, ?_, ?_, ?_, ?_, ?_⟩ <;> (refine (hb2.cell ?_).trans ?_ <;> first | (first | (with_reducible assumption) | omega | (simp only [World.size_alloc, World.size_setCell, World.size_drew, World.heap_drewN] <;> omega) | (simp <;> omega)) | (first | (with_reducible assumption) | ((try simp (disch := first | omega | (simp only [World.size_alloc, World.size_setCell, World.size_drew, World.heap_drewN] <;> omega) | fail) only [World.cell?_alloc_past, World.cell?_alloc_at, World.frozen?_alloc_past, World.frozen?_alloc_at, World.frozen?_setCell, World.cell?_drew, World.frozen?_drew]) <;> first | (with_reducible assumption) | rfl)))
  have all_z : w.heap.size < w2.heap.size := by omega
  clear c_s0 c_s1 c_s2 c_s3 c_s4 c_s5 z_s
  obtain ⟨c_s0, c_s1, c_s2, c_s3, c_s4, c_s5⟩ := all_c
  try clear all_c
  have z_s := all_z
  try clear all_z
  have hB2 : Below w.heap.size w w2 := by (repeat (first | (with_reducible exact Below.refl _ _) | (with_reducible assumption) | (with_reducible exact Hid.out (by with_reducible assumption)) | (with_reducible refine Below.alloc ?_ ?_ _) | (with_reducible refine Below.setCell ?_ ?_ _) | (with_reducible refine below_drewN ?_ _) | (with_reducible refine Below.drew ?_) | (with_reducible refine below_via (by with_reducible assumption) ?_ ?_) | (first | (with_reducible assumption) | omega | (simp only [World.size_alloc, World.size_setCell, World.size_drew, World.heap_drewN] <;> omega) | (simp <;> omega))))
  go_wp2_with fail
  refine (BI.out _ hB2).mono ?_
  rintro e w3 ⟨v, u, rfl, o1, o2, hb3⟩
  have hz_w3 := hb3.size
  try simp only [World.size_alloc, World.size_setCell] at hz_w3
  have all_c : w3.cell? ⟨w.heap.size, 0, none⟩ = some (.int .i64 seg) ∧ w3.cell? ⟨w.heap.size, 1, none⟩ = some (.slice wa lw wc) ∧ w3.cell? ⟨w.heap.size, 2, none⟩ = some (.slice ka lk kc) ∧ w3.cell? ⟨w.heap.size, 3, none⟩ = some (.slice va lv vc) ∧ w3.cell? ⟨w.heap.size, 4, none⟩ = some (.slice ca lc cc) ∧ w3.cell? ⟨w.heap.size, 5, none⟩ = some (.int .u64 laid) := by refine ⟨?_, ?_, ?_, ?_, ?_, ?_⟩ <;> (refine (hb3.cell ?_).trans ?_ <;> first | (first | (with_reducible assumption) | omega | (simp only [World.size_alloc, World.size_setCell, World.size_drew, World.heap_drewN] <;> omega) | (simp <;> omega)) | (first | (with_reducible assumption) | ((try simp (disch := first | omega | (simp only [World.size_alloc, World.size_setCell, World.size_drew, World.heap_drewN] <;> omega) | fail) only [World.cell?_alloc_past, World.cell?_alloc_at, World.frozen?_alloc_past, World.frozen?_alloc_at, World.frozen?_setCell, World.cell?_drew, World.frozen?_drew]) <;> first | (with_reducible assumption) | rfl)))
  have all_z : w.heap.size < w3.heap.size := by omega
  clear c_s0 c_s1 c_s2 c_s3 c_s4 c_s5 z_s
  obtain ⟨c_s0, c_s1, c_s2, c_s3, c_s4, c_s5⟩ := all_c
  try clear all_c
  have z_s := all_z
  try clear all_z
  have hB3 : Below w.heap.size w w3 := by (repeat (first | (with_reducible exact Below.refl _ _) | (with_reducible assumption) | (with_reducible exact Hid.out (by with_reducible assumption)) | (with_reducible refine Below.alloc ?_ ?_ _) | (with_reducible refine Below.setCell ?_ ?_ _) | (with_reducible refine below_drewN ?_ _) | (with_reducible refine Below.drew ?_) | (with_reducible refine below_via (by with_reducible assumption) ?_ ?_) | (first | (with_reducible assumption) | omega | (simp only [World.size_alloc, World.size_setCell, World.size_drew, World.heap_drewN] <;> omega) | (simp <;> omega))))
  obtain ⟨ma, mc, rfl, -⟩ := owns_news o1
  obtain ⟨ca', cc', rfl, -⟩ := owns_news o2
  rw [HM.out]
  clear o1 o2
  go_wp2
  go_ret
  exact ⟨rfl, by (repeat (first | (with_reducible exact Below.refl _ _) | (with_reducible assumption) | (with_reducible exact Hid.out (by with_reducible assumption)) | (with_reducible refine Below.alloc ?_ ?_ _) | (with_reducible refine Below.setCell ?_ ?_ _) | (with_reducible refine below_drewN ?_ _) | (with_reducible refine Below.drew ?_) | (with_reducible refine below_via (by with_reducible assumption) ?_ ?_) | (first | (with_reducible assumption) | omega | (simp only [World.size_alloc, World.size_setCell, World.size_drew, World.heap_drewN] <;> omega) | (simp <;> omega))))⟩

set_option maxRecDepth 100000 in
set_option maxHeartbeats 4000000 in
theorem True_in (seg : Int) (wa ka va ca : Option Addr) (wc kc vc cc lw lk lv lc : Nat) (laid n L A B E P Q : Int) (bm bc : List Int) (l : List (Int × Int)) (w : World)
    (hA : wrap64 (A * seg) = P) (hB : wrap64 (B * seg) = Q) (hl : l.length ≤ 65536)
    (GR : Hid (∀ W, Calls Try.prog 19 #[.agg #[.int .i64 seg, .slice wa lw wc, .slice ka lk kc, .slice va lv vc, .slice ca lc cc, .int .u64 laid], .int .i64 600] W (AnsB W (.bool false))))
    (BI : Hid (∀ W, Below w.heap.size w W → Calls Try.prog 21 #[.agg #[.int .i64 seg, .slice wa lw wc, .slice ka lk kc, .slice va lv vc, .slice ca lc cc, .int .u64 laid]] W (FreshIx2 W L bm bc (.int .i64 0))))
    (OI : Hid (∀ xa xb xc xd W, Below w.heap.size w W → IsRow .i64 W xa bm → IsRow .i64 W xb bc → Calls Try.prog 23 #[ixV L xa bm.length xc xb bc.length xd, .agg #[.int .i64 seg, .slice wa lw wc, .slice ka lk kc, .slice va lv vc, .slice ca lc cc, .int .u64 laid]] W (AnsB W (.tuple #[.bool true, .int .i64 0]))))
    (CK : Hid (∀ xa xb xc xd W, IsRow .i64 W xa bm → IsRow .i64 W xb bc → Calls Try.prog 14 #[ixV L xa bm.length xc xb bc.length xd] W (AnsB W (.int .i64 0))))
    (UN : Hid (∀ W, Calls Try.prog 31 #[.int .i64 L, .int .i64 n] W (AnsB W (.tuple #[.int .i64 A, .int .i64 B, .int .i64 E]))))
    (PR : E = 0 → Hid (∀ W, Below w.heap.size w W → Calls Try.prog 32 #[.agg #[.int .i64 seg, .slice wa lw wc, .slice ka lk kc, .slice va lv vc, .slice ca lc cc, .int .u64 laid], .int .i64 P, .int .i64 Q] W (FreshPr2 W l (.int .i64 0))))
    (TL : E = 0 → Hid (∀ xa xb xc xd W, IsRow .i64 W xa bm → IsRow .i64 W xb bc → Calls Try.prog 33 #[ixV L xa bm.length xc xb bc.length xd, .int .i64 n, .int .i64 (tellT l).1, .int .i64 l.length] W (AnsB W (.bool true)))) :
    Calls Try.prog 8 #[.agg #[.int .i64 seg, .slice wa lw wc, .slice ka lk kc, .slice va lv vc, .slice ca lc cc, .int .u64 laid], .int .i64 n] w (AnsB w (.bool true)) := by
  have AL := Lib.hid alive_ok
  have HA := Lib.hid hA
  have HB := Lib.hid hB
  clear hA hB
  by_cases hE : E = 0
  · have PR' := PR hE
    have TL' := TL hE
    subst hE
    clear PR TL
    by_cases hl0 : l = []
    · subst hl0
      go_enter Try.func8, Try.ntmps8
      go_wp2_with fail
      refine (AL.out _).mono ?_
      rintro e w1 ⟨rfl, hb1⟩
      have hz_w1 := hb1.size
      try simp only [World.size_alloc, World.size_setCell] at hz_w1
      have all_c : w1.cell? ⟨w.heap.size, 0, none⟩ = some (.int .i64 seg) ∧ w1.cell? ⟨w.heap.size, 1, none⟩ = some (.slice wa lw wc) ∧ w1.cell? ⟨w.heap.size, 2, none⟩ = some (.slice ka lk kc) ∧ w1.cell? ⟨w.heap.size, 3, none⟩ = some (.slice va lv vc) ∧ w1.cell? ⟨w.heap.size, 4, none⟩ = some (.slice ca lc cc) ∧ w1.cell? ⟨w.heap.size, 5, none⟩ = some (.int .u64 laid) := by refine ⟨?_, ?_, ?_, ?_, ?_, ?_⟩ <;> (refine (hb1.cell ?_).trans ?_ <;> first | (first | (with_reducible assumption) | omega | (simp only [World.size_alloc, World.size_setCell, World.size_drew, World.heap_drewN] <;> omega) | (simp <;> omega)) | (first | (with_reducible assumption) | ((try simp (disch := first | omega | (simp only [World.size_alloc, World.size_setCell, World.size_drew, World.heap_drewN] <;> omega) | fail) only [World.cell?_alloc_past, World.cell?_alloc_at, World.frozen?_alloc_past, World.frozen?_alloc_at, World.frozen?_setCell, World.cell?_drew, World.frozen?_drew]) <;> first | (with_reducible assumption) | rfl)))
      have all_z : w.heap.size < w1.heap.size := by omega
      obtain ⟨c_s0, c_s1, c_s2, c_s3, c_s4, c_s5⟩ := all_c
      try clear all_c
      have z_s := all_z
      try clear all_z
      have hB1 : Below w.heap.size w w1 := by (repeat (first | (with_reducible exact Below.refl _ _) | (with_reducible assumption) | (with_reducible exact Hid.out (by with_reducible assumption)) | (with_reducible refine Below.alloc ?_ ?_ _) | (with_reducible refine Below.setCell ?_ ?_ _) | (with_reducible refine below_drewN ?_ _) | (with_reducible refine Below.drew ?_) | (with_reducible refine below_via (by with_reducible assumption) ?_ ?_) | (first | (with_reducible assumption) | omega | (simp only [World.size_alloc, World.size_setCell, World.size_drew, World.heap_drewN] <;> omega) | (simp <;> omega))))
      go_wp2_with fail
      refine (GR.out _).mono ?_
      rintro e w2 ⟨rfl, hb2⟩
      have hz_w2 := hb2.size
      try simp only [World.size_alloc, World.size_setCell] at hz_w2
      have all_c : w2.cell? ⟨w.heap.size, 0, none⟩ = some (.int .i64 seg) ∧ w2.cell? ⟨w.heap.size, 1, none⟩ = some (.slice wa lw wc) ∧ w2.cell? ⟨w.heap.size, 2, none⟩ = some (.slice ka lk kc) ∧ w2.cell? ⟨w.heap.size, 3, none⟩ = some (.slice va lv vc) ∧ w2.cell? ⟨w.heap.size, 4, none⟩ = some (.slice ca lc cc) ∧ w2.cell? ⟨w.heap.size, 5, none⟩ = some (.int .u64 laid) := by refine ⟨?_, ?_, ?_, ?_, ?_, ?_⟩ <;> (refine (hb2.cell ?_).trans ?_ <;> first | (first | (with_reducible assumption) | omega | (simp only [World.size_alloc, World.size_setCell, World.size_drew, World.heap_drewN] <;> omega) | (simp <;> omega)) | (first | (with_reducible assumption) | ((try simp (disch := first | omega | (simp only [World.size_alloc, World.size_setCell, World.size_drew, World.heap_drewN] <;> omega) | fail) only [World.cell?_alloc_past, World.cell?_alloc_at, World.frozen?_alloc_past, World.frozen?_alloc_at, World.frozen?_setCell, World.cell?_drew, World.frozen?_drew]) <;> first | (with_reducible assumption) | rfl)))
      have all_z : w.heap.size < w2.heap.size := by omega
      clear c_s0 c_s1 c_s2 c_s3 c_s4 c_s5 z_s
      obtain ⟨c_s0, c_s1, c_s2, c_s3, c_s4, c_s5⟩ := all_c
      try clear all_c
      have z_s := all_z
      try clear all_z
      have hB2 : Below w.heap.size w w2 := by (repeat (first | (with_reducible exact Below.refl _ _) | (with_reducible assumption) | (with_reducible exact Hid.out (by with_reducible assumption)) | (with_reducible refine Below.alloc ?_ ?_ _) | (with_reducible refine Below.setCell ?_ ?_ _) | (with_reducible refine below_drewN ?_ _) | (with_reducible refine Below.drew ?_) | (with_reducible refine below_via (by with_reducible assumption) ?_ ?_) | (first | (with_reducible assumption) | omega | (simp only [World.size_alloc, World.size_setCell, World.size_drew, World.heap_drewN] <;> omega) | (simp <;> omega))))
      go_wp2_with fail
      refine (BI.out _ hB2).mono ?_
      rintro e w3 ⟨v, u, rfl, o1, o2, hb3⟩
      have hz_w3 := hb3.size
      try simp only [World.size_alloc, World.size_setCell] at hz_w3
      have all_c : w3.cell? ⟨w.heap.size, 0, none⟩ = some (.int .i64 seg) ∧ w3.cell? ⟨w.heap.size, 1, none⟩ = some (.slice wa lw wc) ∧ w3.cell? ⟨w.heap.size, 2, none⟩ = some (.slice ka lk kc) ∧ w3.cell? ⟨w.heap.size, 3, none⟩ = some (.slice va lv vc) ∧ w3.cell? ⟨w.heap.size, 4, none⟩ = some (.slice ca lc cc) ∧ w3.cell? ⟨w.heap.size, 5, none⟩ = some (.int .u64 laid) := by refine ⟨?_, ?_, ?_, ?_, ?_, ?_⟩ <;> (refine (hb3.cell ?_).trans ?_ <;> first | (first | (with_reducible assumption) | omega | (simp only [World.size_alloc, World.size_setCell, World.size_drew, World.heap_drewN] <;> omega) | (simp <;> omega)) | (first | (with_reducible assumption) | ((try simp (disch := first | omega | (simp only [World.size_alloc, World.size_setCell, World.size_drew, World.heap_drewN] <;> omega) | fail) only [World.cell?_alloc_past, World.cell?_alloc_at, World.frozen?_alloc_past, World.frozen?_alloc_at, World.frozen?_setCell, World.cell?_drew, World.frozen?_drew]) <;> first | (with_reducible assumption) | rfl)))
      have all_z : w.heap.size < w3.heap.size := by omega
      clear c_s0 c_s1 c_s2 c_s3 c_s4 c_s5 z_s
      obtain ⟨c_s0, c_s1, c_s2, c_s3, c_s4, c_s5⟩ := all_c
      try clear all_c
      have z_s := all_z
      try clear all_z
      have hB3 : Below w.heap.size w w3 := by (repeat (first | (with_reducible exact Below.refl _ _) | (with_reducible assumption) | (with_reducible exact Hid.out (by with_reducible assumption)) | (with_reducible refine Below.alloc ?_ ?_ _) | (with_reducible refine Below.setCell ?_ ?_ _) | (with_reducible refine below_drewN ?_ _) | (with_reducible refine Below.drew ?_) | (with_reducible refine below_via (by with_reducible assumption) ?_ ?_) | (first | (with_reducible assumption) | omega | (simp only [World.size_alloc, World.size_setCell, World.size_drew, World.heap_drewN] <;> omega) | (simp <;> omega))))
      obtain ⟨ma, mc, rfl, i1, -, -, -, -⟩ := row_of_owns o1
      obtain ⟨ca', cc', rfl, i2, -, -, -, -⟩ := row_of_owns o2
      have I1 := Lib.hid (fun W (hb : Below w3.heap.size w3 W) => i1.below hb)
      have I2 := Lib.hid (fun W (hb : Below w3.heap.size w3 W) => i2.below hb)
      clear o1 o2 i1 i2 hb1 hb2 hb3
      have hx : Below w3.heap.size w3 (w3.alloc (.cells #[.int .i64 L, .slice ma bm.length mc, .slice ca' bc.length cc'] 25)) := (Below.refl _ _).alloc (Nat.le_refl _) _
      go_wp2_with fail
      refine (OI.out ma ca' mc cc' _ (by (repeat (first | (with_reducible exact Below.refl _ _) | (with_reducible assumption) | (with_reducible exact Hid.out (by with_reducible assumption)) | (with_reducible refine Below.alloc ?_ ?_ _) | (with_reducible refine Below.setCell ?_ ?_ _) | (with_reducible refine below_drewN ?_ _) | (with_reducible refine Below.drew ?_) | (with_reducible refine below_via (by with_reducible assumption) ?_ ?_) | (first | (with_reducible assumption) | omega | (simp only [World.size_alloc, World.size_setCell, World.size_drew, World.heap_drewN] <;> omega) | (simp <;> omega))))) (I1.out _ hx) (I2.out _ hx)).mono ?_
      rintro e w4 ⟨rfl, hb4⟩
      have hz_w4 := hb4.size
      try simp only [World.size_alloc, World.size_setCell] at hz_w4
      have all_c : w4.cell? ⟨w.heap.size, 0, none⟩ = some (.int .i64 seg) ∧ w4.cell? ⟨w.heap.size, 1, none⟩ = some (.slice wa lw wc) ∧ w4.cell? ⟨w.heap.size, 2, none⟩ = some (.slice ka lk kc) ∧ w4.cell? ⟨w.heap.size, 3, none⟩ = some (.slice va lv vc) ∧ w4.cell? ⟨w.heap.size, 4, none⟩ = some (.slice ca lc cc) ∧ w4.cell? ⟨w.heap.size, 5, none⟩ = some (.int .u64 laid) ∧ w4.cell? ⟨w3.heap.size, 0, none⟩ = some (.int .i64 L) ∧ w4.cell? ⟨w3.heap.size, 1, none⟩ = some (.slice ma bm.length mc) ∧ w4.cell? ⟨w3.heap.size, 2, none⟩ = some (.slice ca' bc.length cc') := by refine ⟨?_, ?_, ?_, ?_, ?_, ?_, ?_, ?_, ?_⟩ <;> (refine (hb4.cell ?_).trans ?_ <;> first | (first | (with_reducible assumption) | omega | (simp only [World.size_alloc, World.size_setCell, World.size_drew, World.heap_drewN] <;> omega) | (simp <;> omega)) | (first | (with_reducible assumption) | ((try simp (disch := first | omega | (simp only [World.size_alloc, World.size_setCell, World.size_drew, World.heap_drewN] <;> omega) | fail) only [World.cell?_alloc_past, World.cell?_alloc_at, World.frozen?_alloc_past, World.frozen?_alloc_at, World.frozen?_setCell, World.cell?_drew, World.frozen?_drew]) <;> first | (with_reducible assumption) | rfl)))
      have all_z : w.heap.size < w4.heap.size ∧ w3.heap.size < w4.heap.size := by refine ⟨?_, ?_⟩ <;> (omega)
      clear c_s0 c_s1 c_s2 c_s3 c_s4 c_s5 z_s
      obtain ⟨c_s0, c_s1, c_s2, c_s3, c_s4, c_s5, c_x0, c_x1, c_x2⟩ := all_c
      try clear all_c
      obtain ⟨z_s, z_x⟩ := all_z
      try clear all_z
      have h4 : Below w3.heap.size w3 w4 := below_via hb4 hx (by simp)
      go_wp2_with fail
      refine (UN.out _).mono ?_
      rintro e w5 ⟨rfl, hb5⟩
      have hz_w5 := hb5.size
      try simp only [World.size_alloc, World.size_setCell] at hz_w5
      have all_c : w5.cell? ⟨w.heap.size, 0, none⟩ = some (.int .i64 seg) ∧ w5.cell? ⟨w.heap.size, 1, none⟩ = some (.slice wa lw wc) ∧ w5.cell? ⟨w.heap.size, 2, none⟩ = some (.slice ka lk kc) ∧ w5.cell? ⟨w.heap.size, 3, none⟩ = some (.slice va lv vc) ∧ w5.cell? ⟨w.heap.size, 4, none⟩ = some (.slice ca lc cc) ∧ w5.cell? ⟨w.heap.size, 5, none⟩ = some (.int .u64 laid) ∧ w5.cell? ⟨w3.heap.size, 0, none⟩ = some (.int .i64 L) ∧ w5.cell? ⟨w3.heap.size, 1, none⟩ = some (.slice ma bm.length mc) ∧ w5.cell? ⟨w3.heap.size, 2, none⟩ = some (.slice ca' bc.length cc') := by refine ⟨?_, ?_, ?_, ?_, ?_, ?_, ?_, ?_, ?_⟩ <;> (refine (hb5.cell ?_).trans ?_ <;> first | (first | (with_reducible assumption) | omega | (simp only [World.size_alloc, World.size_setCell, World.size_drew, World.heap_drewN] <;> omega) | (simp <;> omega)) | (first | (with_reducible assumption) | ((try simp (disch := first | omega | (simp only [World.size_alloc, World.size_setCell, World.size_drew, World.heap_drewN] <;> omega) | fail) only [World.cell?_alloc_past, World.cell?_alloc_at, World.frozen?_alloc_past, World.frozen?_alloc_at, World.frozen?_setCell, World.cell?_drew, World.frozen?_drew]) <;> first | (with_reducible assumption) | rfl)))
      have all_z : w.heap.size < w5.heap.size ∧ w3.heap.size < w5.heap.size := by refine ⟨?_, ?_⟩ <;> (omega)
      clear c_s0 c_s1 c_s2 c_s3 c_s4 c_s5 c_x0 c_x1 c_x2 z_s z_x
      obtain ⟨c_s0, c_s1, c_s2, c_s3, c_s4, c_s5, c_x0, c_x1, c_x2⟩ := all_c
      try clear all_c
      obtain ⟨z_s, z_x⟩ := all_z
      try clear all_z
      have h5 : Below w3.heap.size w3 w5 := below_via hb5 h4 (by omega)
      go_wp2_with fail
      refine (CK.out ma ca' mc cc' _ (I1.out _ h5) (I2.out _ h5)).mono ?_
      rintro e w6 ⟨rfl, hb6⟩
      have hz_w6 := hb6.size
      try simp only [World.size_alloc, World.size_setCell] at hz_w6
      have all_c : w6.cell? ⟨w.heap.size, 0, none⟩ = some (.int .i64 seg) ∧ w6.cell? ⟨w.heap.size, 1, none⟩ = some (.slice wa lw wc) ∧ w6.cell? ⟨w.heap.size, 2, none⟩ = some (.slice ka lk kc) ∧ w6.cell? ⟨w.heap.size, 3, none⟩ = some (.slice va lv vc) ∧ w6.cell? ⟨w.heap.size, 4, none⟩ = some (.slice ca lc cc) ∧ w6.cell? ⟨w.heap.size, 5, none⟩ = some (.int .u64 laid) ∧ w6.cell? ⟨w3.heap.size, 0, none⟩ = some (.int .i64 L) ∧ w6.cell? ⟨w3.heap.size, 1, none⟩ = some (.slice ma bm.length mc) ∧ w6.cell? ⟨w3.heap.size, 2, none⟩ = some (.slice ca' bc.length cc') := by refine ⟨?_, ?_, ?_, ?_, ?_, ?_, ?_, ?_, ?_⟩ <;> (refine (hb6.cell ?_).trans ?_ <;> first | (first | (with_reducible assumption) | omega | (simp only [World.size_alloc, World.size_setCell, World.size_drew, World.heap_drewN] <;> omega) | (simp <;> omega)) | (first | (with_reducible assumption) | ((try simp (disch := first | omega | (simp only [World.size_alloc, World.size_setCell, World.size_drew, World.heap_drewN] <;> omega) | fail) only [World.cell?_alloc_past, World.cell?_alloc_at, World.frozen?_alloc_past, World.frozen?_alloc_at, World.frozen?_setCell, World.cell?_drew, World.frozen?_drew]) <;> first | (with_reducible assumption) | rfl)))
      have all_z : w.heap.size < w6.heap.size ∧ w3.heap.size < w6.heap.size := by refine ⟨?_, ?_⟩ <;> (omega)
      clear c_s0 c_s1 c_s2 c_s3 c_s4 c_s5 c_x0 c_x1 c_x2 z_s z_x
      obtain ⟨c_s0, c_s1, c_s2, c_s3, c_s4, c_s5, c_x0, c_x1, c_x2⟩ := all_c
      try clear all_c
      obtain ⟨z_s, z_x⟩ := all_z
      try clear all_z
      have h6 : Below w3.heap.size w3 w6 := below_via hb6 h5 (by omega)
      clear hb4 hb5 hb6 hx
      go_wp2_with fail
      rw [HA.out, HB.out]
      refine (PR'.out _ (by (repeat (first | (with_reducible exact Below.refl _ _) | (with_reducible assumption) | (with_reducible exact Hid.out (by with_reducible assumption)) | (with_reducible refine Below.alloc ?_ ?_ _) | (with_reducible refine Below.setCell ?_ ?_ _) | (with_reducible refine below_drewN ?_ _) | (with_reducible refine Below.drew ?_) | (with_reducible refine below_via (by with_reducible assumption) ?_ ?_) | (first | (with_reducible assumption) | omega | (simp only [World.size_alloc, World.size_setCell, World.size_drew, World.heap_drewN] <;> omega) | (simp <;> omega)))))).mono ?_
      rintro e w7 ⟨v, rfl, o3, hb7⟩
      have hz_w7 := hb7.size
      try simp only [World.size_alloc, World.size_setCell] at hz_w7
      have all_c : w7.cell? ⟨w.heap.size, 0, none⟩ = some (.int .i64 seg) ∧ w7.cell? ⟨w.heap.size, 1, none⟩ = some (.slice wa lw wc) ∧ w7.cell? ⟨w.heap.size, 2, none⟩ = some (.slice ka lk kc) ∧ w7.cell? ⟨w.heap.size, 3, none⟩ = some (.slice va lv vc) ∧ w7.cell? ⟨w.heap.size, 4, none⟩ = some (.slice ca lc cc) ∧ w7.cell? ⟨w.heap.size, 5, none⟩ = some (.int .u64 laid) ∧ w7.cell? ⟨w3.heap.size, 0, none⟩ = some (.int .i64 L) ∧ w7.cell? ⟨w3.heap.size, 1, none⟩ = some (.slice ma bm.length mc) ∧ w7.cell? ⟨w3.heap.size, 2, none⟩ = some (.slice ca' bc.length cc') := by refine ⟨?_, ?_, ?_, ?_, ?_, ?_, ?_, ?_, ?_⟩ <;> (refine (hb7.cell ?_).trans ?_ <;> first | (first | (with_reducible assumption) | omega | (simp only [World.size_alloc, World.size_setCell, World.size_drew, World.heap_drewN] <;> omega) | (simp <;> omega)) | (first | (with_reducible assumption) | ((try simp (disch := first | omega | (simp only [World.size_alloc, World.size_setCell, World.size_drew, World.heap_drewN] <;> omega) | fail) only [World.cell?_alloc_past, World.cell?_alloc_at, World.frozen?_alloc_past, World.frozen?_alloc_at, World.frozen?_setCell, World.cell?_drew, World.frozen?_drew]) <;> first | (with_reducible assumption) | rfl)))
      have all_z : w.heap.size < w7.heap.size ∧ w3.heap.size < w7.heap.size := by refine ⟨?_, ?_⟩ <;> (omega)
      clear c_s0 c_s1 c_s2 c_s3 c_s4 c_s5 c_x0 c_x1 c_x2 z_s z_x
      obtain ⟨c_s0, c_s1, c_s2, c_s3, c_s4, c_s5, c_x0, c_x1, c_x2⟩ := all_c
      try clear all_c
      obtain ⟨z_s, z_x⟩ := all_z
      try clear all_z
      have h7 : Below w3.heap.size w3 w7 := below_via hb7 h6 (by omega)
      obtain ⟨la, lca, hvl, -⟩ := owns_news o3
      replace hvl : v = .slice la 0 lca := hvl
      subst hvl
      clear o3 hb7
      go_wp2_with fail
      refine (TL'.out ma ca' mc cc' _ (I1.out _ h7) (I2.out _ h7)).mono ?_
      rintro e w8 ⟨rfl, hb8⟩
      have hz_w8 := hb8.size
      try simp only [World.size_alloc, World.size_setCell] at hz_w8
      have all_c : w8.cell? ⟨w.heap.size, 0, none⟩ = some (.int .i64 seg) ∧ w8.cell? ⟨w.heap.size, 1, none⟩ = some (.slice wa lw wc) ∧ w8.cell? ⟨w.heap.size, 2, none⟩ = some (.slice ka lk kc) ∧ w8.cell? ⟨w.heap.size, 3, none⟩ = some (.slice va lv vc) ∧ w8.cell? ⟨w.heap.size, 4, none⟩ = some (.slice ca lc cc) ∧ w8.cell? ⟨w.heap.size, 5, none⟩ = some (.int .u64 laid) ∧ w8.cell? ⟨w3.heap.size, 0, none⟩ = some (.int .i64 L) ∧ w8.cell? ⟨w3.heap.size, 1, none⟩ = some (.slice ma bm.length mc) ∧ w8.cell? ⟨w3.heap.size, 2, none⟩ = some (.slice ca' bc.length cc') := by refine ⟨?_, ?_, ?_, ?_, ?_, ?_, ?_, ?_, ?_⟩ <;> (refine (hb8.cell ?_).trans ?_ <;> first | (first | (with_reducible assumption) | omega | (simp only [World.size_alloc, World.size_setCell, World.size_drew, World.heap_drewN] <;> omega) | (simp <;> omega)) | (first | (with_reducible assumption) | ((try simp (disch := first | omega | (simp only [World.size_alloc, World.size_setCell, World.size_drew, World.heap_drewN] <;> omega) | fail) only [World.cell?_alloc_past, World.cell?_alloc_at, World.frozen?_alloc_past, World.frozen?_alloc_at, World.frozen?_setCell, World.cell?_drew, World.frozen?_drew]) <;> first | (with_reducible assumption) | rfl)))
      have all_z : w.heap.size < w8.heap.size ∧ w3.heap.size < w8.heap.size := by refine ⟨?_, ?_⟩ <;> (omega)
      clear c_s0 c_s1 c_s2 c_s3 c_s4 c_s5 c_x0 c_x1 c_x2 z_s z_x
      obtain ⟨c_s0, c_s1, c_s2, c_s3, c_s4, c_s5, c_x0, c_x1, c_x2⟩ := all_c
      try clear all_c
      obtain ⟨z_s, z_x⟩ := all_z
      try clear all_z
      have h8 : Below w3.heap.size w3 w8 := below_via hb8 h7 (by omega)
      go_wp2
      go_ret
      exact ⟨rfl, below_via h8 hB3 (by omega)⟩
    · have hlm : ∃ m, l.length = m + 1 := ⟨l.length - 1, by have := List.length_pos_iff.2 hl0; omega⟩
      obtain ⟨m, hm⟩ := hlm
      have HMX : Hid ((tellT l).1 = (l.getD m (0, 0)).1) := Lib.hid (by rw [tellT_max hl0, hm, Nat.add_sub_cancel])
      have HML := Lib.hid hm
      rw [hm] at hl
      clear hm
      go_enter Try.func8, Try.ntmps8
      go_wp2_with fail
      refine (AL.out _).mono ?_
      rintro e w1 ⟨rfl, hb1⟩
      have hz_w1 := hb1.size
      try simp only [World.size_alloc, World.size_setCell] at hz_w1
      have all_c : w1.cell? ⟨w.heap.size, 0, none⟩ = some (.int .i64 seg) ∧ w1.cell? ⟨w.heap.size, 1, none⟩ = some (.slice wa lw wc) ∧ w1.cell? ⟨w.heap.size, 2, none⟩ = some (.slice ka lk kc) ∧ w1.cell? ⟨w.heap.size, 3, none⟩ = some (.slice va lv vc) ∧ w1.cell? ⟨w.heap.size, 4, none⟩ = some (.slice ca lc cc) ∧ w1.cell? ⟨w.heap.size, 5, none⟩ = some (.int .u64 laid) := by refine ⟨?_, ?_, ?_, ?_, ?_, ?_⟩ <;> (refine (hb1.cell ?_).trans ?_ <;> first | (first | (with_reducible assumption) | omega | (simp only [World.size_alloc, World.size_setCell, World.size_drew, World.heap_drewN] <;> omega) | (simp <;> omega)) | (first | (with_reducible assumption) | ((try simp (disch := first | omega | (simp only [World.size_alloc, World.size_setCell, World.size_drew, World.heap_drewN] <;> omega) | fail) only [World.cell?_alloc_past, World.cell?_alloc_at, World.frozen?_alloc_past, World.frozen?_alloc_at, World.frozen?_setCell, World.cell?_drew, World.frozen?_drew]) <;> first | (with_reducible assumption) | rfl)))
      have all_z : w.heap.size < w1.heap.size := by omega
      obtain ⟨c_s0, c_s1, c_s2, c_s3, c_s4, c_s5⟩ := all_c
      try clear all_c
      have z_s := all_z
      try clear all_z
      have hB1 : Below w.heap.size w w1 := by (repeat (first | (with_reducible exact Below.refl _ _) | (with_reducible assumption) | (with_reducible exact Hid.out (by with_reducible assumption)) | (with_reducible refine Below.alloc ?_ ?_ _) | (with_reducible refine Below.setCell ?_ ?_ _) | (with_reducible refine below_drewN ?_ _) | (with_reducible refine Below.drew ?_) | (with_reducible refine below_via (by with_reducible assumption) ?_ ?_) | (first | (with_reducible assumption) | omega | (simp only [World.size_alloc, World.size_setCell, World.size_drew, World.heap_drewN] <;> omega) | (simp <;> omega))))
      go_wp2_with fail
      refine (GR.out _).mono ?_
      rintro e w2 ⟨rfl, hb2⟩
      have hz_w2 := hb2.size
      try simp only [World.size_alloc, World.size_setCell] at hz_w2
      have all_c : w2.cell? ⟨w.heap.size, 0, none⟩ = some (.int .i64 seg) ∧ w2.cell? ⟨w.heap.size, 1, none⟩ = some (.slice wa lw wc) ∧ w2.cell? ⟨w.heap.size, 2, none⟩ = some (.slice ka lk kc) ∧ w2.cell? ⟨w.heap.size, 3, none⟩ = some (.slice va lv vc) ∧ w2.cell? ⟨w.heap.size, 4, none⟩ = some (.slice ca lc cc) ∧ w2.cell? ⟨w.heap.size, 5, none⟩ = some (.int .u64 laid) := by refine ⟨?_, ?_, ?_, ?_, ?_, ?_⟩ <;> (refine (hb2.cell ?_).trans ?_ <;> first | (first | (with_reducible assumption) | omega | (simp only [World.size_alloc, World.size_setCell, World.size_drew, World.heap_drewN] <;> omega) | (simp <;> omega)) | (first | (with_reducible assumption) | ((try simp (disch := first | omega | (simp only [World.size_alloc, World.size_setCell, World.size_drew, World.heap_drewN] <;> omega) | fail) only [World.cell?_alloc_past, World.cell?_alloc_at, World.frozen?_alloc_past, World.frozen?_alloc_at, World.frozen?_setCell, World.cell?_drew, World.frozen?_drew]) <;> first | (with_reducible assumption) | rfl)))
      have all_z : w.heap.size < w2.heap.size := by omega
      clear c_s0 c_s1 c_s2 c_s3 c_s4 c_s5 z_s
      obtain ⟨c_s0, c_s1, c_s2, c_s3, c_s4, c_s5⟩ := all_c
      try clear all_c
      have z_s := all_z
      try clear all_z
      have hB2 : Below w.heap.size w w2 := by (repeat (first | (with_reducible exact Below.refl _ _) | (with_reducible assumption) | (with_reducible exact Hid.out (by with_reducible assumption)) | (with_reducible refine Below.alloc ?_ ?_ _) | (with_reducible refine Below.setCell ?_ ?_ _) | (with_reducible refine below_drewN ?_ _) | (with_reducible refine Below.drew ?_) | (with_reducible refine below_via (by with_reducible assumption) ?_ ?_) | (first | (with_reducible assumption) | omega | (simp only [World.size_alloc, World.size_setCell, World.size_drew, World.heap_drewN] <;> omega) | (simp <;> omega))))
      go_wp2_with fail
      refine (BI.out _ hB2).mono ?_
      rintro e w3 ⟨v, u, rfl, o1, o2, hb3⟩
      have hz_w3 := hb3.size
      try simp only [World.size_alloc, World.size_setCell] at hz_w3
      have all_c : w3.cell? ⟨w.heap.size, 0, none⟩ = some (.int .i64 seg) ∧ w3.cell? ⟨w.heap.size, 1, none⟩ = some (.slice wa lw wc) ∧ w3.cell? ⟨w.heap.size, 2, none⟩ = some (.slice ka lk kc) ∧ w3.cell? ⟨w.heap.size, 3, none⟩ = some (.slice va lv vc) ∧ w3.cell? ⟨w.heap.size, 4, none⟩ = some (.slice ca lc cc) ∧ w3.cell? ⟨w.heap.size, 5, none⟩ = some (.int .u64 laid) := by refine ⟨?_, ?_, ?_, ?_, ?_, ?_⟩ <;> (refine (hb3.cell ?_).trans ?_ <;> first | (first | (with_reducible assumption) | omega | (simp only [World.size_alloc, World.size_setCell, World.size_drew, World.heap_drewN] <;> omega) | (simp <;> omega)) | (first | (with_reducible assumption) | ((try simp (disch := first | omega | (simp only [World.size_alloc, World.size_setCell, World.size_drew, World.heap_drewN] <;> omega) | fail) only [World.cell?_alloc_past, World.cell?_alloc_at, World.frozen?_alloc_past, World.frozen?_alloc_at, World.frozen?_setCell, World.cell?_drew, World.frozen?_drew]) <;> first | (with_reducible assumption) | rfl)))
      have all_z : w.heap.size < w3.heap.size := by omega
      clear c_s0 c_s1 c_s2 c_s3 c_s4 c_s5 z_s
      obtain ⟨c_s0, c_s1, c_s2, c_s3, c_s4, c_s5⟩ := all_c
      try clear all_c
      have z_s := all_z
      try clear all_z
      have hB3 : Below w.heap.size w w3 := by (repeat (first | (with_reducible exact Below.refl _ _) | (with_reducible assumption) | (with_reducible exact Hid.out (by with_reducible assumption)) | (with_reducible refine Below.alloc ?_ ?_ _) | (with_reducible refine Below.setCell ?_ ?_ _) | (with_reducible refine below_drewN ?_ _) | (with_reducible refine Below.drew ?_) | (with_reducible refine below_via (by with_reducible assumption) ?_ ?_) | (first | (with_reducible assumption) | omega | (simp only [World.size_alloc, World.size_setCell, World.size_drew, World.heap_drewN] <;> omega) | (simp <;> omega))))
      obtain ⟨ma, mc, rfl, i1, -, -, -, -⟩ := row_of_owns o1
      obtain ⟨ca', cc', rfl, i2, -, -, -, -⟩ := row_of_owns o2
      have I1 := Lib.hid (fun W (hb : Below w3.heap.size w3 W) => i1.below hb)
      have I2 := Lib.hid (fun W (hb : Below w3.heap.size w3 W) => i2.below hb)
      clear o1 o2 i1 i2 hb1 hb2 hb3
      have hx : Below w3.heap.size w3 (w3.alloc (.cells #[.int .i64 L, .slice ma bm.length mc, .slice ca' bc.length cc'] 25)) := (Below.refl _ _).alloc (Nat.le_refl _) _
      go_wp2_with fail
      refine (OI.out ma ca' mc cc' _ (by (repeat (first | (with_reducible exact Below.refl _ _) | (with_reducible assumption) | (with_reducible exact Hid.out (by with_reducible assumption)) | (with_reducible refine Below.alloc ?_ ?_ _) | (with_reducible refine Below.setCell ?_ ?_ _) | (with_reducible refine below_drewN ?_ _) | (with_reducible refine Below.drew ?_) | (with_reducible refine below_via (by with_reducible assumption) ?_ ?_) | (first | (with_reducible assumption) | omega | (simp only [World.size_alloc, World.size_setCell, World.size_drew, World.heap_drewN] <;> omega) | (simp <;> omega))))) (I1.out _ hx) (I2.out _ hx)).mono ?_
      rintro e w4 ⟨rfl, hb4⟩
      have hz_w4 := hb4.size
      try simp only [World.size_alloc, World.size_setCell] at hz_w4
      have all_c : w4.cell? ⟨w.heap.size, 0, none⟩ = some (.int .i64 seg) ∧ w4.cell? ⟨w.heap.size, 1, none⟩ = some (.slice wa lw wc) ∧ w4.cell? ⟨w.heap.size, 2, none⟩ = some (.slice ka lk kc) ∧ w4.cell? ⟨w.heap.size, 3, none⟩ = some (.slice va lv vc) ∧ w4.cell? ⟨w.heap.size, 4, none⟩ = some (.slice ca lc cc) ∧ w4.cell? ⟨w.heap.size, 5, none⟩ = some (.int .u64 laid) ∧ w4.cell? ⟨w3.heap.size, 0, none⟩ = some (.int .i64 L) ∧ w4.cell? ⟨w3.heap.size, 1, none⟩ = some (.slice ma bm.length mc) ∧ w4.cell? ⟨w3.heap.size, 2, none⟩ = some (.slice ca' bc.length cc') := by refine ⟨?_, ?_, ?_, ?_, ?_, ?_, ?_, ?_, ?_⟩ <;> (refine (hb4.cell ?_).trans ?_ <;> first | (first | (with_reducible assumption) | omega | (simp only [World.size_alloc, World.size_setCell, World.size_drew, World.heap_drewN] <;> omega) | (simp <;> omega)) | (first | (with_reducible assumption) | ((try simp (disch := first | omega | (simp only [World.size_alloc, World.size_setCell, World.size_drew, World.heap_drewN] <;> omega) | fail) only [World.cell?_alloc_past, World.cell?_alloc_at, World.frozen?_alloc_past, World.frozen?_alloc_at, World.frozen?_setCell, World.cell?_drew, World.frozen?_drew]) <;> first | (with_reducible assumption) | rfl)))
      have all_z : w.heap.size < w4.heap.size ∧ w3.heap.size < w4.heap.size := by refine ⟨?_, ?_⟩ <;> (omega)
      clear c_s0 c_s1 c_s2 c_s3 c_s4 c_s5 z_s
      obtain ⟨c_s0, c_s1, c_s2, c_s3, c_s4, c_s5, c_x0, c_x1, c_x2⟩ := all_c
      try clear all_c
      obtain ⟨z_s, z_x⟩ := all_z
      try clear all_z
      have h4 : Below w3.heap.size w3 w4 := below_via hb4 hx (by simp)
      go_wp2_with fail
      refine (UN.out _).mono ?_
      rintro e w5 ⟨rfl, hb5⟩
      have hz_w5 := hb5.size
      try simp only [World.size_alloc, World.size_setCell] at hz_w5
      have all_c : w5.cell? ⟨w.heap.size, 0, none⟩ = some (.int .i64 seg) ∧ w5.cell? ⟨w.heap.size, 1, none⟩ = some (.slice wa lw wc) ∧ w5.cell? ⟨w.heap.size, 2, none⟩ = some (.slice ka lk kc) ∧ w5.cell? ⟨w.heap.size, 3, none⟩ = some (.slice va lv vc) ∧ w5.cell? ⟨w.heap.size, 4, none⟩ = some (.slice ca lc cc) ∧ w5.cell? ⟨w.heap.size, 5, none⟩ = some (.int .u64 laid) ∧ w5.cell? ⟨w3.heap.size, 0, none⟩ = some (.int .i64 L) ∧ w5.cell? ⟨w3.heap.size, 1, none⟩ = some (.slice ma bm.length mc) ∧ w5.cell? ⟨w3.heap.size, 2, none⟩ = some (.slice ca' bc.length cc') := by refine ⟨?_, ?_, ?_, ?_, ?_, ?_, ?_, ?_, ?_⟩ <;> (refine (hb5.cell ?_).trans ?_ <;> first | (first | (with_reducible assumption) | omega | (simp only [World.size_alloc, World.size_setCell, World.size_drew, World.heap_drewN] <;> omega) | (simp <;> omega)) | (first | (with_reducible assumption) | ((try simp (disch := first | omega | (simp only [World.size_alloc, World.size_setCell, World.size_drew, World.heap_drewN] <;> omega) | fail) only [World.cell?_alloc_past, World.cell?_alloc_at, World.frozen?_alloc_past, World.frozen?_alloc_at, World.frozen?_setCell, World.cell?_drew, World.frozen?_drew]) <;> first | (with_reducible assumption) | rfl)))
      have all_z : w.heap.size < w5.heap.size ∧ w3.heap.size < w5.heap.size := by refine ⟨?_, ?_⟩ <;> (omega)
      clear c_s0 c_s1 c_s2 c_s3 c_s4 c_s5 c_x0 c_x1 c_x2 z_s z_x
      obtain ⟨c_s0, c_s1, c_s2, c_s3, c_s4, c_s5, c_x0, c_x1, c_x2⟩ := all_c
      try clear all_c
      obtain ⟨z_s, z_x⟩ := all_z
      try clear all_z
      have h5 : Below w3.heap.size w3 w5 := below_via hb5 h4 (by omega)
      go_wp2_with fail
      refine (CK.out ma ca' mc cc' _ (I1.out _ h5) (I2.out _ h5)).mono ?_
      rintro e w6 ⟨rfl, hb6⟩
      have hz_w6 := hb6.size
      try simp only [World.size_alloc, World.size_setCell] at hz_w6
      have all_c : w6.cell? ⟨w.heap.size, 0, none⟩ = some (.int .i64 seg) ∧ w6.cell? ⟨w.heap.size, 1, none⟩ = some (.slice wa lw wc) ∧ w6.cell? ⟨w.heap.size, 2, none⟩ = some (.slice ka lk kc) ∧ w6.cell? ⟨w.heap.size, 3, none⟩ = some (.slice va lv vc) ∧ w6.cell? ⟨w.heap.size, 4, none⟩ = some (.slice ca lc cc) ∧ w6.cell? ⟨w.heap.size, 5, none⟩ = some (.int .u64 laid) ∧ w6.cell? ⟨w3.heap.size, 0, none⟩ = some (.int .i64 L) ∧ w6.cell? ⟨w3.heap.size, 1, none⟩ = some (.slice ma bm.length mc) ∧ w6.cell? ⟨w3.heap.size, 2, none⟩ = some (.slice ca' bc.length cc') := by refine ⟨?_, ?_, ?_, ?_, ?_, ?_, ?_, ?_, ?_⟩ <;> (refine (hb6.cell ?_).trans ?_ <;> first | (first | (with_reducible assumption) | omega | (simp only [World.size_alloc, World.size_setCell, World.size_drew, World.heap_drewN] <;> omega) | (simp <;> omega)) | (first | (with_reducible assumption) | ((try simp (disch := first | omega | (simp only [World.size_alloc, World.size_setCell, World.size_drew, World.heap_drewN] <;> omega) | fail) only [World.cell?_alloc_past, World.cell?_alloc_at, World.frozen?_alloc_past, World.frozen?_alloc_at, World.frozen?_setCell, World.cell?_drew, World.frozen?_drew]) <;> first | (with_reducible assumption) | rfl)))
      have all_z : w.heap.size < w6.heap.size ∧ w3.heap.size < w6.heap.size := by refine ⟨?_, ?_⟩ <;> (omega)
      clear c_s0 c_s1 c_s2 c_s3 c_s4 c_s5 c_x0 c_x1 c_x2 z_s z_x
      obtain ⟨c_s0, c_s1, c_s2, c_s3, c_s4, c_s5, c_x0, c_x1, c_x2⟩ := all_c
      try clear all_c
      obtain ⟨z_s, z_x⟩ := all_z
      try clear all_z
      have h6 : Below w3.heap.size w3 w6 := below_via hb6 h5 (by omega)
      clear hb4 hb5 hb6 hx
      go_wp2_with fail
      rw [HA.out, HB.out]
      refine (PR'.out _ (by (repeat (first | (with_reducible exact Below.refl _ _) | (with_reducible assumption) | (with_reducible exact Hid.out (by with_reducible assumption)) | (with_reducible refine Below.alloc ?_ ?_ _) | (with_reducible refine Below.setCell ?_ ?_ _) | (with_reducible refine below_drewN ?_ _) | (with_reducible refine Below.drew ?_) | (with_reducible refine below_via (by with_reducible assumption) ?_ ?_) | (first | (with_reducible assumption) | omega | (simp only [World.size_alloc, World.size_setCell, World.size_drew, World.heap_drewN] <;> omega) | (simp <;> omega)))))).mono ?_
      rintro e w7 ⟨v, rfl, o3, hb7⟩
      have hz_w7 := hb7.size
      try simp only [World.size_alloc, World.size_setCell] at hz_w7
      have all_c : w7.cell? ⟨w.heap.size, 0, none⟩ = some (.int .i64 seg) ∧ w7.cell? ⟨w.heap.size, 1, none⟩ = some (.slice wa lw wc) ∧ w7.cell? ⟨w.heap.size, 2, none⟩ = some (.slice ka lk kc) ∧ w7.cell? ⟨w.heap.size, 3, none⟩ = some (.slice va lv vc) ∧ w7.cell? ⟨w.heap.size, 4, none⟩ = some (.slice ca lc cc) ∧ w7.cell? ⟨w.heap.size, 5, none⟩ = some (.int .u64 laid) ∧ w7.cell? ⟨w3.heap.size, 0, none⟩ = some (.int .i64 L) ∧ w7.cell? ⟨w3.heap.size, 1, none⟩ = some (.slice ma bm.length mc) ∧ w7.cell? ⟨w3.heap.size, 2, none⟩ = some (.slice ca' bc.length cc') := by refine ⟨?_, ?_, ?_, ?_, ?_, ?_, ?_, ?_, ?_⟩ <;> (refine (hb7.cell ?_).trans ?_ <;> first | (first | (with_reducible assumption) | omega | (simp only [World.size_alloc, World.size_setCell, World.size_drew, World.heap_drewN] <;> omega) | (simp <;> omega)) | (first | (with_reducible assumption) | ((try simp (disch := first | omega | (simp only [World.size_alloc, World.size_setCell, World.size_drew, World.heap_drewN] <;> omega) | fail) only [World.cell?_alloc_past, World.cell?_alloc_at, World.frozen?_alloc_past, World.frozen?_alloc_at, World.frozen?_setCell, World.cell?_drew, World.frozen?_drew]) <;> first | (with_reducible assumption) | rfl)))
      have all_z : w.heap.size < w7.heap.size ∧ w3.heap.size < w7.heap.size := by refine ⟨?_, ?_⟩ <;> (omega)
      clear c_s0 c_s1 c_s2 c_s3 c_s4 c_s5 c_x0 c_x1 c_x2 z_s z_x
      obtain ⟨c_s0, c_s1, c_s2, c_s3, c_s4, c_s5, c_x0, c_x1, c_x2⟩ := all_c
      try clear all_c
      obtain ⟨z_s, z_x⟩ := all_z
      try clear all_z
      have h7 : Below w3.heap.size w3 w7 := below_via hb7 h6 (by omega)
      obtain ⟨la, lca, hvl, hil, -, -, -, -⟩ := row_of_owns o3
      rw [HML.out] at hvl
      subst hvl
      obtain ⟨bl, ol, rfl, c0, -, zl⟩ := pr_get hil (i := m) (by rw [HML.out]; omega)
      rw [HMX.out, HML.out] at TL'
      generalize (l.getD m (0, 0)).1 = X at *
      clear o3 hb7 hil
      go_wp2_with fail
      refine (TL'.out ma ca' mc cc' _ (I1.out _ h7) (I2.out _ h7)).mono ?_
      rintro e w8 ⟨rfl, hb8⟩
      have hz_w8 := hb8.size
      try simp only [World.size_alloc, World.size_setCell] at hz_w8
      have all_c : w8.cell? ⟨w.heap.size, 0, none⟩ = some (.int .i64 seg) ∧ w8.cell? ⟨w.heap.size, 1, none⟩ = some (.slice wa lw wc) ∧ w8.cell? ⟨w.heap.size, 2, none⟩ = some (.slice ka lk kc) ∧ w8.cell? ⟨w.heap.size, 3, none⟩ = some (.slice va lv vc) ∧ w8.cell? ⟨w.heap.size, 4, none⟩ = some (.slice ca lc cc) ∧ w8.cell? ⟨w.heap.size, 5, none⟩ = some (.int .u64 laid) ∧ w8.cell? ⟨w3.heap.size, 0, none⟩ = some (.int .i64 L) ∧ w8.cell? ⟨w3.heap.size, 1, none⟩ = some (.slice ma bm.length mc) ∧ w8.cell? ⟨w3.heap.size, 2, none⟩ = some (.slice ca' bc.length cc') := by refine ⟨?_, ?_, ?_, ?_, ?_, ?_, ?_, ?_, ?_⟩ <;> (refine (hb8.cell ?_).trans ?_ <;> first | (first | (with_reducible assumption) | omega | (simp only [World.size_alloc, World.size_setCell, World.size_drew, World.heap_drewN] <;> omega) | (simp <;> omega)) | (first | (with_reducible assumption) | ((try simp (disch := first | omega | (simp only [World.size_alloc, World.size_setCell, World.size_drew, World.heap_drewN] <;> omega) | fail) only [World.cell?_alloc_past, World.cell?_alloc_at, World.frozen?_alloc_past, World.frozen?_alloc_at, World.frozen?_setCell, World.cell?_drew, World.frozen?_drew]) <;> first | (with_reducible assumption) | rfl)))
      have all_z : w.heap.size < w8.heap.size ∧ w3.heap.size < w8.heap.size := by refine ⟨?_, ?_⟩ <;> (omega)
      clear c_s0 c_s1 c_s2 c_s3 c_s4 c_s5 c_x0 c_x1 c_x2 z_s z_x
      obtain ⟨c_s0, c_s1, c_s2, c_s3, c_s4, c_s5, c_x0, c_x1, c_x2⟩ := all_c
      try clear all_c
      obtain ⟨z_s, z_x⟩ := all_z
      try clear all_z
      have h8 : Below w3.heap.size w3 w8 := below_via hb8 h7 (by omega)
      go_wp2
      go_ret
      exact ⟨rfl, below_via h8 hB3 (by omega)⟩
  · have g1 : (E != 0) = true := by simpa using hE
    clear PR TL hE
    go_enter Try.func8, Try.ntmps8
    go_wp2_with fail
    refine (AL.out _).mono ?_
    rintro e w1 ⟨rfl, hb1⟩
    have hz_w1 := hb1.size
    try simp only [World.size_alloc, World.size_setCell] at hz_w1
    have all_c : w1.cell? ⟨w.heap.size, 0, none⟩ = some (.int .i64 seg) ∧ w1.cell? ⟨w.heap.size, 1, none⟩ = some (.slice wa lw wc) ∧ w1.cell? ⟨w.heap.size, 2, none⟩ = some (.slice ka lk kc) ∧ w1.cell? ⟨w.heap.size, 3, none⟩ = some (.slice va lv vc) ∧ w1.cell? ⟨w.heap.size, 4, none⟩ = some (.slice ca lc cc) ∧ w1.cell? ⟨w.heap.size, 5, none⟩ = some (.int .u64 laid) := by refine ⟨?_, ?_, ?_, ?_, ?_, ?_⟩ <;> (refine (hb1.cell ?_).trans ?_ <;> first | (first | (with_reducible assumption) | omega | (simp only [World.size_alloc, World.size_setCell, World.size_drew, World.heap_drewN] <;> omega) | (simp <;> omega)) | (first | (with_reducible assumption) | ((try simp (disch := first | omega | (simp only [World.size_alloc, World.size_setCell, World.size_drew, World.heap_drewN] <;> omega) | fail) only [World.cell?_alloc_past, World.cell?_alloc_at, World.frozen?_alloc_past, World.frozen?_alloc_at, World.frozen?_setCell, World.cell?_drew, World.frozen?_drew]) <;> first | (with_reducible assumption) | rfl)))
    have all_z : w.heap.size < w1.heap.size := by omega
    obtain ⟨c_s0, c_s1, c_s2, c_s3, c_s4, c_s5⟩ := all_c
    try clear all_c
    have z_s := all_z
    try clear all_z
    have hB1 : Below w.heap.size w w1 := by (repeat (first | (with_reducible exact Below.refl _ _) | (with_reducible assumption) | (with_reducible exact Hid.out (by with_reducible assumption)) | (with_reducible refine Below.alloc ?_ ?_ _) | (with_reducible refine Below.setCell ?_ ?_ _) | (with_reducible refine below_drewN ?_ _) | (with_reducible refine Below.drew ?_) | (with_reducible refine below_via (by with_reducible assumption) ?_ ?_) | (first | (with_reducible assumption) | omega | (simp only [World.size_alloc, World.size_setCell, World.size_drew, World.heap_drewN] <;> omega) | (simp <;> omega))))
    go_wp2_with fail
    refine (GR.out _).mono ?_
    rintro e w2 ⟨rfl, hb2⟩
    have hz_w2 := hb2.size
    try simp only [World.size_alloc, World.size_setCell] at hz_w2
    have all_c : w2.cell? ⟨w.heap.size, 0, none⟩ = some (.int .i64 seg) ∧ w2.cell? ⟨w.heap.size, 1, none⟩ = some (.slice wa lw wc) ∧ w2.cell? ⟨w.heap.size, 2, none⟩ = some (.slice ka lk kc) ∧ w2.cell? ⟨w.heap.size, 3, none⟩ = some (.slice va lv vc) ∧ w2.cell? ⟨w.heap.size, 4, none⟩ = some (.slice ca lc cc) ∧ w2.cell? ⟨w.heap.size, 5, none⟩ = some (.int .u64 laid) := by refine ⟨?_, ?_, ?_, ?_, ?_, ?_⟩ <;> (refine (hb2.cell ?_).trans ?_ <;> first | (first | (with_reducible assumption) | omega | (simp only [World.size_alloc, World.size_setCell, World.size_drew, World.heap_drewN] <;> omega) | (simp <;> omega)) | (first | (with_reducible assumption) | ((try simp (disch := first | omega | (simp only [World.size_alloc, World.size_setCell, World.size_drew, World.heap_drewN] <;> omega) | fail) only [World.cell?_alloc_past, World.cell?_alloc_at, World.frozen?_alloc_past, World.frozen?_alloc_at, World.frozen?_setCell, World.cell?_drew, World.frozen?_drew]) <;> first | (with_reducible assumption) | rfl)))
    have all_z : w.heap.size < w2.heap.size := by omega
    clear c_s0 c_s1 c_s2 c_s3 c_s4 c_s5 z_s
    obtain ⟨c_s0, c_s1, c_s2, c_s3, c_s4, c_s5⟩ := all_c
    try clear all_c
    have z_s := all_z
    try clear all_z
    have hB2 : Below w.heap.size w w2 := by (repeat (first | (with_reducible exact Below.refl _ _) | (with_reducible assumption) | (with_reducible exact Hid.out (by with_reducible assumption)) | (with_reducible refine Below.alloc ?_ ?_ _) | (with_reducible refine Below.setCell ?_ ?_ _) | (with_reducible refine below_drewN ?_ _) | (with_reducible refine Below.drew ?_) | (with_reducible refine below_via (by with_reducible assumption) ?_ ?_) | (first | (with_reducible assumption) | omega | (simp only [World.size_alloc, World.size_setCell, World.size_drew, World.heap_drewN] <;> omega) | (simp <;> omega))))
    go_wp2_with fail
    refine (BI.out _ hB2).mono ?_
    rintro e w3 ⟨v, u, rfl, o1, o2, hb3⟩
    have hz_w3 := hb3.size
    try simp only [World.size_alloc, World.size_setCell] at hz_w3
    have all_c : w3.cell? ⟨w.heap.size, 0, none⟩ = some (.int .i64 seg) ∧ w3.cell? ⟨w.heap.size, 1, none⟩ = some (.slice wa lw wc) ∧ w3.cell? ⟨w.heap.size, 2, none⟩ = some (.slice ka lk kc) ∧ w3.cell? ⟨w.heap.size, 3, none⟩ = some (.slice va lv vc) ∧ w3.cell? ⟨w.heap.size, 4, none⟩ = some (.slice ca lc cc) ∧ w3.cell? ⟨w.heap.size, 5, none⟩ = some (.int .u64 laid) := by refine ⟨?_, ?_, ?_, ?_, ?_, ?_⟩ <;> (refine (hb3.cell ?_).trans ?_ <;> first | (first | (with_reducible assumption) | omega | (simp only [World.size_alloc, World.size_setCell, World.size_drew, World.heap_drewN] <;> omega) | (simp <;> omega)) | (first | (with_reducible assumption) | ((try simp (disch := first | omega | (simp only [World.size_alloc, World.size_setCell, World.size_drew, World.heap_drewN] <;> omega) | fail) only [World.cell?_alloc_past, World.cell?_alloc_at, World.frozen?_alloc_past, World.frozen?_alloc_at, World.frozen?_setCell, World.cell?_drew, World.frozen?_drew]) <;> first | (with_reducible assumption) | rfl)))
    have all_z : w.heap.size < w3.heap.size := by omega
    clear c_s0 c_s1 c_s2 c_s3 c_s4 c_s5 z_s
    obtain ⟨c_s0, c_s1, c_s2, c_s3, c_s4, c_s5⟩ := all_c
    try clear all_c
    have z_s := all_z
    try clear all_z
    have hB3 : Below w.heap.size w w3 := by (repeat (first | (with_reducible exact Below.refl _ _) | (with_reducible assumption) | (with_reducible exact Hid.out (by with_reducible assumption)) | (with_reducible refine Below.alloc ?_ ?_ _) | (with_reducible refine Below.setCell ?_ ?_ _) | (with_reducible refine below_drewN ?_ _) | (with_reducible refine Below.drew ?_) | (with_reducible refine below_via (by with_reducible assumption) ?_ ?_) | (first | (with_reducible assumption) | omega | (simp only [World.size_alloc, World.size_setCell, World.size_drew, World.heap_drewN] <;> omega) | (simp <;> omega))))
    obtain ⟨ma, mc, rfl, i1, -, -, -, -⟩ := row_of_owns o1
    obtain ⟨ca', cc', rfl, i2, -, -, -, -⟩ := row_of_owns o2
    have I1 := Lib.hid (fun W (hb : Below w3.heap.size w3 W) => i1.below hb)
    have I2 := Lib.hid (fun W (hb : Below w3.heap.size w3 W) => i2.below hb)
    clear o1 o2 i1 i2 hb1 hb2 hb3
    have hx : Below w3.heap.size w3 (w3.alloc (.cells #[.int .i64 L, .slice ma bm.length mc, .slice ca' bc.length cc'] 25)) := (Below.refl _ _).alloc (Nat.le_refl _) _
    go_wp2_with fail
    refine (OI.out ma ca' mc cc' _ (by (repeat (first | (with_reducible exact Below.refl _ _) | (with_reducible assumption) | (with_reducible exact Hid.out (by with_reducible assumption)) | (with_reducible refine Below.alloc ?_ ?_ _) | (with_reducible refine Below.setCell ?_ ?_ _) | (with_reducible refine below_drewN ?_ _) | (with_reducible refine Below.drew ?_) | (with_reducible refine below_via (by with_reducible assumption) ?_ ?_) | (first | (with_reducible assumption) | omega | (simp only [World.size_alloc, World.size_setCell, World.size_drew, World.heap_drewN] <;> omega) | (simp <;> omega))))) (I1.out _ hx) (I2.out _ hx)).mono ?_
    rintro e w4 ⟨rfl, hb4⟩
    have hz_w4 := hb4.size
    try simp only [World.size_alloc, World.size_setCell] at hz_w4
    have all_c : w4.cell? ⟨w.heap.size, 0, none⟩ = some (.int .i64 seg) ∧ w4.cell? ⟨w.heap.size, 1, none⟩ = some (.slice wa lw wc) ∧ w4.cell? ⟨w.heap.size, 2, none⟩ = some (.slice ka lk kc) ∧ w4.cell? ⟨w.heap.size, 3, none⟩ = some (.slice va lv vc) ∧ w4.cell? ⟨w.heap.size, 4, none⟩ = some (.slice ca lc cc) ∧ w4.cell? ⟨w.heap.size, 5, none⟩ = some (.int .u64 laid) ∧ w4.cell? ⟨w3.heap.size, 0, none⟩ = some (.int .i64 L) ∧ w4.cell? ⟨w3.heap.size, 1, none⟩ = some (.slice ma bm.length mc) ∧ w4.cell? ⟨w3.heap.size, 2, none⟩ = some (.slice ca' bc.length cc') := by refine ⟨?_, ?_, ?_, ?_, ?_, ?_, ?_, ?_, ?_⟩ <;> (refine (hb4.cell ?_).trans ?_ <;> first | (first | (with_reducible assumption) | omega | (simp only [World.size_alloc, World.size_setCell, World.size_drew, World.heap_drewN] <;> omega) | (simp <;> omega)) | (first | (with_reducible assumption) | ((try simp (disch := first | omega | (simp only [World.size_alloc, World.size_setCell, World.size_drew, World.heap_drewN] <;> omega) | fail) only [World.cell?_alloc_past, World.cell?_alloc_at, World.frozen?_alloc_past, World.frozen?_alloc_at, World.frozen?_setCell, World.cell?_drew, World.frozen?_drew]) <;> first | (with_reducible assumption) | rfl)))
    have all_z : w.heap.size < w4.heap.size ∧ w3.heap.size < w4.heap.size := by refine ⟨?_, ?_⟩ <;> (omega)
    clear c_s0 c_s1 c_s2 c_s3 c_s4 c_s5 z_s
    obtain ⟨c_s0, c_s1, c_s2, c_s3, c_s4, c_s5, c_x0, c_x1, c_x2⟩ := all_c
    try clear all_c
    obtain ⟨z_s, z_x⟩ := all_z
    try clear all_z
    have h4 : Below w3.heap.size w3 w4 := below_via hb4 hx (by simp)
    go_wp2_with fail
    refine (UN.out _).mono ?_
    rintro e w5 ⟨rfl, hb5⟩
    have hz_w5 := hb5.size
    try simp only [World.size_alloc, World.size_setCell] at hz_w5
    have all_c : w5.cell? ⟨w.heap.size, 0, none⟩ = some (.int .i64 seg) ∧ w5.cell? ⟨w.heap.size, 1, none⟩ = some (.slice wa lw wc) ∧ w5.cell? ⟨w.heap.size, 2, none⟩ = some (.slice ka lk kc) ∧ w5.cell? ⟨w.heap.size, 3, none⟩ = some (.slice va lv vc) ∧ w5.cell? ⟨w.heap.size, 4, none⟩ = some (.slice ca lc cc) ∧ w5.cell? ⟨w.heap.size, 5, none⟩ = some (.int .u64 laid) ∧ w5.cell? ⟨w3.heap.size, 0, none⟩ = some (.int .i64 L) ∧ w5.cell? ⟨w3.heap.size, 1, none⟩ = some (.slice ma bm.length mc) ∧ w5.cell? ⟨w3.heap.size, 2, none⟩ = some (.slice ca' bc.length cc') := by refine ⟨?_, ?_, ?_, ?_, ?_, ?_, ?_, ?_, ?_⟩ <;> (refine (hb5.cell ?_).trans ?_ <;> first | (first | (with_reducible assumption) | omega | (simp only [World.size_alloc, World.size_setCell, World.size_drew, World.heap_drewN] <;> omega) | (simp <;> omega)) | (first | (with_reducible assumption) | ((try simp (disch := first | omega | (simp only [World.size_alloc, World.size_setCell, World.size_drew, World.heap_drewN] <;> omega) | fail) only [World.cell?_alloc_past, World.cell?_alloc_at, World.frozen?_alloc_past, World.frozen?_alloc_at, World.frozen?_setCell, World.cell?_drew, World.frozen?_drew]) <;> first | (with_reducible assumption) | rfl)))
    have all_z : w.heap.size < w5.heap.size ∧ w3.heap.size < w5.heap.size := by refine ⟨?_, ?_⟩ <;> (omega)
    clear c_s0 c_s1 c_s2 c_s3 c_s4 c_s5 c_x0 c_x1 c_x2 z_s z_x
    obtain ⟨c_s0, c_s1, c_s2, c_s3, c_s4, c_s5, c_x0, c_x1, c_x2⟩ := all_c
    try clear all_c
    obtain ⟨z_s, z_x⟩ := all_z
    try clear all_z
    have h5 : Below w3.heap.size w3 w5 := below_via hb5 h4 (by omega)
    go_wp2_with fail
    refine (CK.out ma ca' mc cc' _ (I1.out _ h5) (I2.out _ h5)).mono ?_
    rintro e w6 ⟨rfl, hb6⟩
    have hz_w6 := hb6.size
    try simp only [World.size_alloc, World.size_setCell] at hz_w6
    have all_c : w6.cell? ⟨w.heap.size, 0, none⟩ = some (.int .i64 seg) ∧ w6.cell? ⟨w.heap.size, 1, none⟩ = some (.slice wa lw wc) ∧ w6.cell? ⟨w.heap.size, 2, none⟩ = some (.slice ka lk kc) ∧ w6.cell? ⟨w.heap.size, 3, none⟩ = some (.slice va lv vc) ∧ w6.cell? ⟨w.heap.size, 4, none⟩ = some (.slice ca lc cc) ∧ w6.cell? ⟨w.heap.size, 5, none⟩ = some (.int .u64 laid) ∧ w6.cell? ⟨w3.heap.size, 0, none⟩ = some (.int .i64 L) ∧ w6.cell? ⟨w3.heap.size, 1, none⟩ = some (.slice ma bm.length mc) ∧ w6.cell? ⟨w3.heap.size, 2, none⟩ = some (.slice ca' bc.length cc') := by refine ⟨?_, ?_, ?_, ?_, ?_, ?_, ?_, ?_, ?_⟩ <;> (refine (hb6.cell ?_).trans ?_ <;> first | (first | (with_reducible assumption) | omega | (simp only [World.size_alloc, World.size_setCell, World.size_drew, World.heap_drewN] <;> omega) | (simp <;> omega)) | (first | (with_reducible assumption) | ((try simp (disch := first | omega | (simp only [World.size_alloc, World.size_setCell, World.size_drew, World.heap_drewN] <;> omega) | fail) only [World.cell?_alloc_past, World.cell?_alloc_at, World.frozen?_alloc_past, World.frozen?_alloc_at, World.frozen?_setCell, World.cell?_drew, World.frozen?_drew]) <;> first | (with_reducible assumption) | rfl)))
    have all_z : w.heap.size < w6.heap.size ∧ w3.heap.size < w6.heap.size := by refine ⟨?_, ?_⟩ <;> (omega)
    clear c_s0 c_s1 c_s2 c_s3 c_s4 c_s5 c_x0 c_x1 c_x2 z_s z_x
    obtain ⟨c_s0, c_s1, c_s2, c_s3, c_s4, c_s5, c_x0, c_x1, c_x2⟩ := all_c
    try clear all_c
    obtain ⟨z_s, z_x⟩ := all_z
    try clear all_z
    have h6 : Below w3.heap.size w3 w6 := below_via hb6 h5 (by omega)
    clear hb4 hb5 hb6 hx
    go_wp2_with fail
    refine (CK.out ma ca' mc cc' _ (I1.out _ h6) (I2.out _ h6)).mono ?_
    rintro e w7 ⟨rfl, hb7⟩
    have hz_w7 := hb7.size
    try simp only [World.size_alloc, World.size_setCell] at hz_w7
    have all_c : w7.cell? ⟨w.heap.size, 0, none⟩ = some (.int .i64 seg) ∧ w7.cell? ⟨w.heap.size, 1, none⟩ = some (.slice wa lw wc) ∧ w7.cell? ⟨w.heap.size, 2, none⟩ = some (.slice ka lk kc) ∧ w7.cell? ⟨w.heap.size, 3, none⟩ = some (.slice va lv vc) ∧ w7.cell? ⟨w.heap.size, 4, none⟩ = some (.slice ca lc cc) ∧ w7.cell? ⟨w.heap.size, 5, none⟩ = some (.int .u64 laid) ∧ w7.cell? ⟨w3.heap.size, 0, none⟩ = some (.int .i64 L) ∧ w7.cell? ⟨w3.heap.size, 1, none⟩ = some (.slice ma bm.length mc) ∧ w7.cell? ⟨w3.heap.size, 2, none⟩ = some (.slice ca' bc.length cc') := by refine ⟨?_, ?_, ?_, ?_, ?_, ?_, ?_, ?_, ?_⟩ <;> (refine (hb7.cell ?_).trans ?_ <;> first | (first | (with_reducible assumption) | omega | (simp only [World.size_alloc, World.size_setCell, World.size_drew, World.heap_drewN] <;> omega) | (simp <;> omega)) | (first | (with_reducible assumption) | ((try simp (disch := first | omega | (simp only [World.size_alloc, World.size_setCell, World.size_drew, World.heap_drewN] <;> omega) | fail) only [World.cell?_alloc_past, World.cell?_alloc_at, World.frozen?_alloc_past, World.frozen?_alloc_at, World.frozen?_setCell, World.cell?_drew, World.frozen?_drew]) <;> first | (with_reducible assumption) | rfl)))
    have all_z : w.heap.size < w7.heap.size ∧ w3.heap.size < w7.heap.size := by refine ⟨?_, ?_⟩ <;> (omega)
    clear c_s0 c_s1 c_s2 c_s3 c_s4 c_s5 c_x0 c_x1 c_x2 z_s z_x
    obtain ⟨c_s0, c_s1, c_s2, c_s3, c_s4, c_s5, c_x0, c_x1, c_x2⟩ := all_c
    try clear all_c
    obtain ⟨z_s, z_x⟩ := all_z
    try clear all_z
    have h7 : Below w3.heap.size w3 w7 := below_via hb7 h6 (by omega)
    go_wp2
    go_ret
    exact ⟨rfl, below_via h7 hB3 (by omega)⟩

theorem IndexTrue_walk (w : World) (sl : SlC) (al : SlA) (hin : SlIn w sl al) (z1 : al.wa = none → al.wc = 0) (z2 : al.ka = none → al.kc = 0) (z3 : al.va = none → al.vc = 0) (z4 : al.ca = none → al.cc = 0) (n : Int) :
    Calls Try.prog 8 #[slV sl al, .int .i64 n] w fun e w' => e = .returned (.bool true) ∧ Below w.heap.size w w' := by
  have GR := Lib.hid (fun w' => Great04_ok sl.seg al.wa al.ka al.va al.ca al.wc al.kc al.vc al.cc sl.ws.length sl.ks.length sl.vs.length sl.cs.length sl.laid 600 w')
  by_cases hg : gr4 600 sl.ks.length sl.vs.length sl.ws.length sl.cs.length = true
  · rw [hg] at GR
    exact True_great _ _ _ _ _ _ _ _ _ _ _ _ _ _ n w GR
  · have hg0 : gr4 600 sl.ks.length sl.vs.length sl.ws.length sl.cs.length = false := by simpa using hg
    rw [hg0] at GR
    simp only [gr4, Bool.or_eq_false_iff, decide_eq_false_iff_not] at hg0
    have BI := Lib.hid (fun W (hb : Below w.heap.size w W) => BuildIx_ok sl al (by omega) (by omega) W (hin.below hb))
    by_cases h0 : bldE sl = 0
    · obtain ⟨S, D, hS, hS2, hS4, hS64, hcs, hD, hks, hSM, hL, hlm, hlc, hv⟩ := bld_vals h0
      have hbl := bld_len sl
      have hmay := bld_may h0
      have hm := seekE_may (bldE_seek h0).1
      have OI := Lib.hid (fun xa xb xc xd W (hb : Below w.heap.size w W) (h1 : IsRow .i64 W xa (bldM sl)) (h2 : IsRow .i64 W xb (bldC sl)) => OfIx_ok (bldL sl) xa xb xc xd (bldM sl) (bldC sl) sl al (by omega) (by omega) W (hin.below hb) h1 h2 hbl.1 hbl.2)
      have CK := Lib.hid (fun xa xb xc xd W h1 h2 => Check_ix (bldL sl) xa xb xc xd (bldM sl) (bldC sl) W h1 h2)
      rw [show ofB (bldL sl) (bldM sl) (bldC sl) sl = true by simp [ofB, ixEq, h0], h0] at OI
      rw [show ixE (bldL sl) (bldM sl) (bldC sl) = 0 from if_pos hmay] at CK
      rw [h0] at BI
      have UN := Lib.hid (fun W => Under_b (bldL sl) n W)
      by_cases hn : ndE (bldL sl) n = 0
      · obtain ⟨l1, l2, n1, n2⟩ := ndE_zero hn
        rw [hL, Int.toNat_natCast] at n2
        obtain ⟨k, rfl⟩ : ∃ k : Nat, n = k := ⟨n.toNat, by omega⟩
        have k1 : 1 ≤ k := by omega
        have k2 : k < 2 ^ (D + 1) := by
          have : (2 : Int) ^ (D + 1) = ((2 ^ (D + 1) : Nat) : Int) := by push_cast; rfl
          omega
        obtain ⟨u1, u2, u3⟩ := un_bd k1 k2
        obtain ⟨f1, f2⟩ := un_heap k1 k2
        have hu0 : unF D k ≤ unT D k := Nat.le_add_right _ _
        have hP : unF D k * S ≤ S * 2 ^ D := by rw [Nat.mul_comm]; exact Nat.mul_le_mul_left _ (by omega)
        have hQ : unT D k * S ≤ S * 2 ^ D := by rw [Nat.mul_comm]; exact Nat.mul_le_mul_left _ (by omega)
        have hPQ : unF D k * S ≤ unT D k * S := Nat.mul_le_mul_right _ hu0
        have e1 : unA (bldL sl) k = (unF D k : Nat) := by rw [unA, if_pos hn, hL]; exact f1
        have e2 : unB (bldL sl) k = (unT D k : Nat) := by rw [unB, if_pos hn, hL]; exact f2
        have pe : partE sl ((unF D k * S : Nat) : Int) ((unT D k * S : Nat) : Int) = 0 := by rw [partE, if_pos hm, if_pos (by omega)]
        have pr : prsR sl ((unF D k * S : Nat) : Int) ((unT D k * S : Nat) : Int) = prs sl (unF D k * S) (unT D k * S) := by rw [prsR, if_pos pe, Int.toNat_natCast, Int.toNat_natCast]
        have PR := Lib.hid (fun W (hb : Below w.heap.size w W) => Pairs_ok sl al (by omega) (by omega) ((unF D k * S : Nat) : Int) ((unT D k * S : Nat) : Int) W (hin.below hb))
        rw [pe, pr] at PR
        have hvk := hv k k1 k2
        have hae : atE (bldL sl) (bldM sl) (bldC sl) k = 0 := by
          rw [atE, if_pos hmay, if_pos]
          refine ⟨n1, ?_⟩
          rw [hL, Int.toNat_natCast]
          exact n2
        have hlen : (prs sl (unF D k * S) (unT D k * S)).length ≤ 65536 := Nat.le_trans prs_le (by omega)
        have TL := Lib.hid (fun xa xb xc xd W h1 h2 => tells_ok (bldL sl) k xa xb xc xd (bldM sl) (bldC sl) (tellT (prs sl (unF D k * S) (unT D k * S))).1 (prs sl (unF D k * S) (unT D k * S)).length
          (by rw [atM, if_pos hae, hL, Int.toNat_natCast, Int.toNat_natCast]; exact hvk.1) (by rw [atC, if_pos hae, hL, Int.toNat_natCast, Int.toNat_natCast, hvk.2, tellT_cnt]) hae W h1 h2)
        rw [e1, e2] at UN
        refine True_in _ _ _ _ _ _ _ _ _ _ _ _ _ _ k (bldL sl) _ _ _ ((unF D k * S : Nat) : Int) ((unT D k * S : Nat) : Int) _ _ _ w ?_ ?_ hlen GR BI OI CK UN (fun _ => PR) (fun _ => TL)
        · rw [hS, show ((unF D k : Nat) : Int) * (S : Int) = ((unF D k * S : Nat) : Int) by push_cast; rfl]; unfold wrap64; omega
        · rw [hS, show ((unT D k : Nat) : Int) * (S : Int) = ((unT D k * S : Nat) : Int) by push_cast; rfl]; unfold wrap64; omega
      · exact True_in _ _ _ _ _ _ _ _ _ _ _ _ _ _ n (bldL sl) _ _ _ _ _ _ _ [] w rfl rfl (by decide) GR BI OI CK UN (fun h => absurd h hn) (fun h => absurd h hn)
    · exact True_no _ _ _ _ _ _ _ _ _ _ _ _ _ _ n _ _ _ _ h0 (if_neg h0) w GR BI
end Go.Proofs.Ytelckhfmchnpnaa
