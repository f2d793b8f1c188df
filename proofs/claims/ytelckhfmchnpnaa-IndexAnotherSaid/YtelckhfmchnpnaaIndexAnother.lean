/-
  IndexAnother: an index that is turned in one place is not that of the array.
  No condition.
-/
import Derived.Test.YtelckhfmchnpnaaAlvSum
import Derived.Test.YtelckhfmchnpnaaTwoAll
import Derived.Test.YtelckhfmchnpnaaIdxTw
import Derived.Test.YtelckhfmchnpnaaIdxLaw
namespace Go.Proofs.Ytelckhfmchnpnaa
open Go.RowKit Go.Shelf
attribute [local go_sem] Oper.semAt_some
set_option linter.unusedVariables false
set_option linter.unusedSimpArgs false

theorem own_form {w : World} {B n c s : Nat} {e : TypeId} {ao : Option Addr} {xs : List Value} (h : w.ownsRow B e s (.slice ao n c) n xs) (hn : 0 < n) : ∃ g, ao = some ⟨g, 0, none⟩ ∧ B ≤ g ∧ g < w.heap.size := by
  obtain ⟨_, ⟨h1, h2⟩ | ⟨g, cap, cur, hv, hg, hh, -⟩⟩ := h
  · omega
  · cases hv
    exact ⟨g, rfl, hg, (Array.getElem?_eq_some_iff.1 hh).1⟩
theorem Another_great (seg : Int) (wa ka va ca : Option Addr) (wc kc vc cc lw lk lv lc : Nat) (laid at' by' : Int) (w : World) (GR : Hid (∀ W, Calls Try.prog 19 #[.agg #[.int .i64 seg, .slice wa lw wc, .slice ka lk kc, .slice va lv vc, .slice ca lc cc, .int .u64 laid], .int .i64 600] W (AnsB W (.bool true)))) :
    Calls Try.prog 7 #[.agg #[.int .i64 seg, .slice wa lw wc, .slice ka lk kc, .slice va lv vc, .slice ca lc cc, .int .u64 laid], .int .i64 at', .int .i64 by'] w (AnsB w (.bool true)) := by
  have AL := Lib.hid alive_ok
  go_enter Try.func7, Try.ntmps7
  go_wp2_with fail
  refine (AL.out _).mono ?_
  rintro e w1 ⟨rfl, hb1⟩
  have hz_w1 := hb1.size
  try simp only [World.size_alloc, World.size_setCell] at hz_w1
  have all_c : w1.cell? ⟨w.heap.size, 0, none⟩ = some (.int .i64 seg) ∧ w1.cell? ⟨w.heap.size, 1, none⟩ = some (.slice wa lw wc) ∧ w1.cell? ⟨w.heap.size, 2, none⟩ = some (.slice ka lk kc) ∧ w1.cell? ⟨w.heap.size, 3, none⟩ = some (.slice va lv vc) ∧ w1.cell? ⟨w.heap.size, 4, none⟩ = some (.slice ca lc cc) ∧ w1.cell? ⟨w.heap.size, 5, none⟩ = some (.int .u64 laid) := by refine ⟨?_, ?_, ?_, ?_, ?_, ?_⟩ <;> (refine (hb1.cell ?_).trans ?_ <;> first | (first | (with_reducible assumption) | omega | (simp only [World.size_alloc, World.size_setCell, World.size_drew, World.heap_drewN] <;> omega) | (simp <;> omega)) | (first | (with_reducible assumption) | ((try simp (disch := first | omega | (simp only [World.size_alloc, World.size_setCell, World.size_drew, World.heap_drewN] <;> omega) | fail) only [World.cell?_alloc_past, World.cell?_alloc_at, World.frozen?_alloc_past, World.frozen?_alloc_at, World.frozen?_setCell, World.cell?_drew, World.frozen?_drew]) <;> first | (with_reducible assumption) | rfl)))
  have all_z : w.heap.size < w1.heap.size := by omega
  obtain ⟨c_s0, c_s1, c_s2, c_s3, c_s4, c_s5⟩ := all_c
  try clear all_c
  have z_s := all_z
  try clear all_z
  have hB1 : Below w.heap.size w w1 := by (repeat (first | (with_reducible exact Below.refl _ _) | (with_reducible assumption) | (with_reducible exact Hid.out (by with_reducible assumption)) | (with_reducible refine Below.alloc ?_ ?_ _) | (with_reducible refine Below.setCell ?_ ?_ _) | (with_reducible refine below_drewN ?_ _) | (with_reducible refine Below.drew ?_) | (with_reducible refine below_via (by with_reducible assumption) ?_ ?_) | (first | (with_reducible assumption) | omega | (simp only [World.size_alloc, World.size_setCell, World.size_drew, World.heap_drewN] <;> omega) | (simp <;> omega))))
  go_wp2_with fail
  refine (GR.out _).mono ?_
  rintro e w2 ⟨rfl, hb2⟩
  have hz_w2 := hb2.size
  try simp only [World.size_alloc, World.size_setCell] at hz_w2
  have all_c : w2.cell? ⟨w.heap.size, 0, none⟩ = some (.int .i64 seg) ∧ w2.cell? ⟨w.heap.size, 1, none⟩ = some (.slice wa lw wc) ∧ w2.cell? ⟨w.heap.size, 2, none⟩ = some (.slice ka lk kc) ∧ w2.cell? ⟨w.heap.size, 3, none⟩ = some (.slice va lv vc) ∧ w2.cell? ⟨w.heap.size, 4, none⟩ = some (.slice ca lc cc) ∧ w2.cell? ⟨w.heap.size, 5, none⟩ = some (.int .u64 laid) := by refine ⟨?_, ?_, ?_, ?_, ?_, ?_⟩ <;> (refine (hb2.cell ?_).trans ?_ <;> first | (first | (with_reducible assumption) | omega | (simp only [World.size_alloc, World.size_setCell, World.size_drew, World.heap_drewN] <;> omega) | (simp <;> omega)) | (first | (with_reducible assumption) | ((try simp (disch := first | omega | (simp only [World.size_alloc, World.size_setCell, World.size_drew, World.heap_drewN] <;> omega) | fail) only [World.cell?_alloc_past, World.cell?_alloc_at, World.frozen?_alloc_past, World.frozen?_alloc_at, World.frozen?_setCell, World.cell?_drew, World.frozen?_drew]) <;> first | (with_reducible assumption) | rfl)))
  have all_z : w.heap.size < w2.heap.size := by omega
  clear c_s0 c_s1 c_s2 c_s3 c_s4 c_s5 z_s
  obtain ⟨c_s0, c_s1, c_s2, c_s3, c_s4, c_s5⟩ := all_c
  try clear all_c
  have z_s := all_z
  try clear all_z
  have hB2 : Below w.heap.size w w2 := by (repeat (first | (with_reducible exact Below.refl _ _) | (with_reducible assumption) | (with_reducible exact Hid.out (by with_reducible assumption)) | (with_reducible refine Below.alloc ?_ ?_ _) | (with_reducible refine Below.setCell ?_ ?_ _) | (with_reducible refine below_drewN ?_ _) | (with_reducible refine Below.drew ?_) | (with_reducible refine below_via (by with_reducible assumption) ?_ ?_) | (first | (with_reducible assumption) | omega | (simp only [World.size_alloc, World.size_setCell, World.size_drew, World.heap_drewN] <;> omega) | (simp <;> omega))))
  go_wp2
  go_ret
  exact ⟨rfl, hB2⟩
theorem Another_no (seg : Int) (wa ka va ca : Option Addr) (wc kc vc cc lw lk lv lc : Nat) (laid at' by' : Int) (L x : Int) (bm bc : List Int) (hx : x ≠ 0) (hm : bm = []) (w : World) (GR : Hid (∀ W, Calls Try.prog 19 #[.agg #[.int .i64 seg, .slice wa lw wc, .slice ka lk kc, .slice va lv vc, .slice ca lc cc, .int .u64 laid], .int .i64 600] W (AnsB W (.bool false)))) (BI : Hid (∀ W, Below w.heap.size w W → Calls Try.prog 21 #[.agg #[.int .i64 seg, .slice wa lw wc, .slice ka lk kc, .slice va lv vc, .slice ca lc cc, .int .u64 laid]] W (FreshIx2 W L bm bc (.int .i64 x)))) :
    Calls Try.prog 7 #[.agg #[.int .i64 seg, .slice wa lw wc, .slice ka lk kc, .slice va lv vc, .slice ca lc cc, .int .u64 laid], .int .i64 at', .int .i64 by'] w (AnsB w (.bool true)) := by
  have AL := Lib.hid alive_ok
  have g1 : (x != 0) = true := by simpa using hx
  have g2 : (x == 0) = false := by simpa using hx
  have HM : Hid (bm.length = 0) := Lib.hid (by rw [hm]; rfl)
  clear hx hm
  go_enter Try.func7, Try.ntmps7
  go_wp2_with fail
  refine (AL.out _).mono ?_
  rintro e w1 ⟨rfl, hb1⟩
  have hz_w1 := hb1.size
  try simp only [World.size_alloc, World.size_setCell] at hz_w1
  have all_c : w1.cell? ⟨w.heap.size, 0, none⟩ = some (.int .i64 seg) ∧ w1.cell? ⟨w.heap.size, 1, none⟩ = some (.slice wa lw wc) ∧ w1.cell? ⟨w.heap.size, 2, none⟩ = some (.slice ka lk kc) ∧ w1.cell? ⟨w.heap.size, 3, none⟩ = some (.slice va lv vc) ∧ w1.cell? ⟨w.heap.size, 4, none⟩ = some (.slice ca lc cc) ∧ w1.cell? ⟨w.heap.size, 5, none⟩ = some (.int .u64 laid) := by refine ⟨?_, ?_, ?_, ?_, ?_, ?_⟩ <;> (refine (hb1.cell ?_).trans ?_ <;> first | (first | (with_reducible assumption) | omega | (simp only [World.size_alloc, World.size_setCell, World.size_drew, World.heap_drewN] <;> omega) | (simp <;> omega)) | (first | (with_reducible assumption) | ((try simp (disch := first | omega | (simp only [World.size_alloc, World.size_setCell, World.size_drew, World.heap_drewN] <;> omega) | fail) only [World.cell?_alloc_past, World.cell?_alloc_at, World.frozen?_alloc_past, World.frozen?_alloc_at, World.frozen?_setCell, World.cell?_drew, World.frozen?_drew]) <;> first | (with_reducible assumption) | rfl)))
  have all_z : w.heap.size < w1.heap.size := by omega
  obtain ⟨c_s0, c_s1, c_s2, c_s3, c_s4, c_s5⟩ := all_c
  try clear all_c
  have z_s := all_z
  try clear all_z
  have hB1 : Below w.heap.size w w1 := by (repeat (first | (with_reducible exact Below.refl _ _) | (with_reducible assumption) | (with_reducible exact Hid.out (by with_reducible assumption)) | (with_reducible refine Below.alloc ?_ ?_ _) | (with_reducible refine Below.setCell ?_ ?_ _) | (with_reducible refine below_drewN ?_ _) | (with_reducible refine Below.drew ?_) | (with_reducible refine below_via (by with_reducible assumption) ?_ ?_) | (first | (with_reducible assumption) | omega | (simp only [World.size_alloc, World.size_setCell, World.size_drew, World.heap_drewN] <;> omega) | (simp <;> omega))))
  go_wp2_with fail
  refine (GR.out _).mono ?_
  rintro e w2 ⟨rfl, hb2⟩
  have hz_w2 := hb2.size
  try simp only [World.size_alloc, World.size_setCell] at hz_w2
  have all_c : w2.cell? ⟨w.heap.size, 0, none⟩ = some (.int .i64 seg) ∧ w2.cell? ⟨w.heap.size, 1, none⟩ = some (.slice wa lw wc) ∧ w2.cell? ⟨w.heap.size, 2, none⟩ = some (.slice ka lk kc) ∧ w2.cell? ⟨w.heap.size, 3, none⟩ = some (.slice va lv vc) ∧ w2.cell? ⟨w.heap.size, 4, none⟩ = some (.slice ca lc cc) ∧ w2.cell? ⟨w.heap.size, 5, none⟩ = some (.int .u64 laid) := by refine ⟨?_, ?_, ?_, ?_, ?_, ?_⟩ <;> (refine (hb2.cell ?_).trans ?_ <;> first | (first | (with_reducible assumption) | omega | (simp only [World.size_alloc, World.size_setCell, World.size_drew, World.heap_drewN] <;> omega) | (simp <;> omega)) | (first | (with_reducible assumption) | ((try simp (disch := first | omega | (simp only [World.size_alloc, World.size_setCell, World.size_drew, World.heap_drewN] <;> omega) | fail) only [World.cell?_alloc_past, World.cell?_alloc_at, World.frozen?_alloc_past, World.frozen?_alloc_at, World.frozen?_setCell, World.cell?_drew, World.frozen?_drew]) <;> first | (with_reducible assumption) | rfl)))
  have all_z : w.heap.size < w2.heap.size := by omega
  clear c_s0 c_s1 c_s2 c_s3 c_s4 c_s5 z_s
  obtain ⟨c_s0, c_s1, c_s2, c_s3, c_s4, c_s5⟩ := all_c
  try clear all_c
  have z_s := all_z
  try clear all_z
  have hB2 : Below w.heap.size w w2 := by (repeat (first | (with_reducible exact Below.refl _ _) | (with_reducible assumption) | (with_reducible exact Hid.out (by with_reducible assumption)) | (with_reducible refine Below.alloc ?_ ?_ _) | (with_reducible refine Below.setCell ?_ ?_ _) | (with_reducible refine below_drewN ?_ _) | (with_reducible refine Below.drew ?_) | (with_reducible refine below_via (by with_reducible assumption) ?_ ?_) | (first | (with_reducible assumption) | omega | (simp only [World.size_alloc, World.size_setCell, World.size_drew, World.heap_drewN] <;> omega) | (simp <;> omega))))
  go_wp2_with fail
  refine (BI.out _ hB2).mono ?_
  rintro e w3 ⟨v, u, rfl, o1, o2, hb3⟩
  have hz_w3 := hb3.size
  try simp only [World.size_alloc, World.size_setCell] at hz_w3
  have all_c : w3.cell? ⟨w.heap.size, 0, none⟩ = some (.int .i64 seg) ∧ w3.cell? ⟨w.heap.size, 1, none⟩ = some (.slice wa lw wc) ∧ w3.cell? ⟨w.heap.size, 2, none⟩ = some (.slice ka lk kc) ∧ w3.cell? ⟨w.heap.size, 3, none⟩ = some (.slice va lv vc) ∧ w3.cell? ⟨w.heap.size, 4, none⟩ = some (.slice ca lc cc) ∧ w3.cell? ⟨w.heap.size, 5, none⟩ = some (.int .u64 laid) := by refine ⟨?_, ?_, ?_, ?_, ?_, ?_⟩ <;> (refine (hb3.cell ?_).trans ?_ <;> first | (first | (with_reducible assumption) | omega | (simp only [World.size_alloc, World.size_setCell, World.size_drew, World.heap_drewN] <;> omega) | (simp <;> omega)) | (first | (with_reducible assumption) | ((try simp (disch := first | omega | (simp only [World.size_alloc, World.size_setCell, World.size_drew, World.heap_drewN] <;> omega) | fail) only [World.cell?_alloc_past, World.cell?_alloc_at, World.frozen?_alloc_past, World.frozen?_alloc_at, World.frozen?_setCell, World.cell?_drew, World.frozen?_drew]) <;> first | (with_reducible assumption) | rfl)))
  have all_z : w.heap.size < w3.heap.size := by omega
  clear c_s0 c_s1 c_s2 c_s3 c_s4 c_s5 z_s
  obtain ⟨c_s0, c_s1, c_s2, c_s3, c_s4, c_s5⟩ := all_c
  try clear all_c
  have z_s := all_z
  try clear all_z
  have hB3 : Below w.heap.size w w3 := by (repeat (first | (with_reducible exact Below.refl _ _) | (with_reducible assumption) | (with_reducible exact Hid.out (by with_reducible assumption)) | (with_reducible refine Below.alloc ?_ ?_ _) | (with_reducible refine Below.setCell ?_ ?_ _) | (with_reducible refine below_drewN ?_ _) | (with_reducible refine Below.drew ?_) | (with_reducible refine below_via (by with_reducible assumption) ?_ ?_) | (first | (with_reducible assumption) | omega | (simp only [World.size_alloc, World.size_setCell, World.size_drew, World.heap_drewN] <;> omega) | (simp <;> omega))))
  obtain ⟨ma, mc, rfl, -⟩ := owns_news o1
  obtain ⟨ca', cc', rfl, -⟩ := owns_news o2
  rw [HM.out]
  clear o1 o2
  go_wp2
  go_ret
  exact ⟨rfl, by (repeat (first | (with_reducible exact Below.refl _ _) | (with_reducible assumption) | (with_reducible exact Hid.out (by with_reducible assumption)) | (with_reducible refine Below.alloc ?_ ?_ _) | (with_reducible refine Below.setCell ?_ ?_ _) | (with_reducible refine below_drewN ?_ _) | (with_reducible refine Below.drew ?_) | (with_reducible refine below_via (by with_reducible assumption) ?_ ?_) | (first | (with_reducible assumption) | omega | (simp only [World.size_alloc, World.size_setCell, World.size_drew, World.heap_drewN] <;> omega) | (simp <;> omega))))⟩
theorem Another_out (seg : Int) (wa ka va ca : Option Addr) (wc kc vc cc lw lk lv lc : Nat) (laid at' by' : Int) (L : Int) (lm : Nat) (bm bc : List Int) (hl1 : bm.length = lm) (hl2 : bc.length = lm) (hlm : lm ≤ 100000) (ha : at' < 0 ∨ lm ≤ at') (w : World) (GR : Hid (∀ W, Calls Try.prog 19 #[.agg #[.int .i64 seg, .slice wa lw wc, .slice ka lk kc, .slice va lv vc, .slice ca lc cc, .int .u64 laid], .int .i64 600] W (AnsB W (.bool false)))) (BI : Hid (∀ W, Below w.heap.size w W → Calls Try.prog 21 #[.agg #[.int .i64 seg, .slice wa lw wc, .slice ka lk kc, .slice va lv vc, .slice ca lc cc, .int .u64 laid]] W (FreshIx2 W L bm bc (.int .i64 0)))) :
    Calls Try.prog 7 #[.agg #[.int .i64 seg, .slice wa lw wc, .slice ka lk kc, .slice va lv vc, .slice ca lc cc, .int .u64 laid], .int .i64 at', .int .i64 by'] w (AnsB w (.bool true)) := by
  have AL := Lib.hid alive_ok
  have HL1 := Lib.hid hl1
  have HL2 := Lib.hid hl2
  clear hl1 hl2
  rcases ha with ha | ha
  all_goals
    go_enter Try.func7, Try.ntmps7
    go_wp2_with fail
    refine (AL.out _).mono ?_
    rintro e w1 ⟨rfl, hb1⟩
    have hz_w1 := hb1.size
    try simp only [World.size_alloc, World.size_setCell] at hz_w1
    have all_c : w1.cell? ⟨w.heap.size, 0, none⟩ = some (.int .i64 seg) ∧ w1.cell? ⟨w.heap.size, 1, none⟩ = some (.slice wa lw wc) ∧ w1.cell? ⟨w.heap.size, 2, none⟩ = some (.slice ka lk kc) ∧ w1.cell? ⟨w.heap.size, 3, none⟩ = some (.slice va lv vc) ∧ w1.cell? ⟨w.heap.size, 4, none⟩ = some (.slice ca lc cc) ∧ w1.cell? ⟨w.heap.size, 5, none⟩ = some (.int .u64 laid) := by refine ⟨?_, ?_, ?_, ?_, ?_, ?_⟩ <;> (refine (hb1.cell ?_).trans ?_ <;> first | (first | (with_reducible assumption) | omega | (simp only [World.size_alloc, World.size_setCell, World.size_drew, World.heap_drewN] <;> omega) | (simp <;> omega)) | (first | (with_reducible assumption) | ((try simp (disch := first | omega | (simp only [World.size_alloc, World.size_setCell, World.size_drew, World.heap_drewN] <;> omega) | fail) only [World.cell?_alloc_past, World.cell?_alloc_at, World.frozen?_alloc_past, World.frozen?_alloc_at, World.frozen?_setCell, World.cell?_drew, World.frozen?_drew]) <;> first | (with_reducible assumption) | rfl)))
    have all_z : w.heap.size < w1.heap.size := by omega
    obtain ⟨c_s0, c_s1, c_s2, c_s3, c_s4, c_s5⟩ := all_c
    try clear all_c
    have z_s := all_z
    try clear all_z
    have hB1 : Below w.heap.size w w1 := by (repeat (first | (with_reducible exact Below.refl _ _) | (with_reducible assumption) | (with_reducible exact Hid.out (by with_reducible assumption)) | (with_reducible refine Below.alloc ?_ ?_ _) | (with_reducible refine Below.setCell ?_ ?_ _) | (with_reducible refine below_drewN ?_ _) | (with_reducible refine Below.drew ?_) | (with_reducible refine below_via (by with_reducible assumption) ?_ ?_) | (first | (with_reducible assumption) | omega | (simp only [World.size_alloc, World.size_setCell, World.size_drew, World.heap_drewN] <;> omega) | (simp <;> omega))))
    go_wp2_with fail
    refine (GR.out _).mono ?_
    rintro e w2 ⟨rfl, hb2⟩
    have hz_w2 := hb2.size
    try simp only [World.size_alloc, World.size_setCell] at hz_w2
    have all_c : w2.cell? ⟨w.heap.size, 0, none⟩ = some (.int .i64 seg) ∧ w2.cell? ⟨w.heap.size, 1, none⟩ = some (.slice wa lw wc) ∧ w2.cell? ⟨w.heap.size, 2, none⟩ = some (.slice ka lk kc) ∧ w2.cell? ⟨w.heap.size, 3, none⟩ = some (.slice va lv vc) ∧ w2.cell? ⟨w.heap.size, 4, none⟩ = some (.slice ca lc cc) ∧ w2.cell? ⟨w.heap.size, 5, none⟩ = some (.int .u64 laid) := by refine ⟨?_, ?_, ?_, ?_, ?_, ?_⟩ <;> (refine (hb2.cell ?_).trans ?_ <;> first | (first | (with_reducible assumption) | omega | (simp only [World.size_alloc, World.size_setCell, World.size_drew, World.heap_drewN] <;> omega) | (simp <;> omega)) | (first | (with_reducible assumption) | ((try simp (disch := first | omega | (simp only [World.size_alloc, World.size_setCell, World.size_drew, World.heap_drewN] <;> omega) | fail) only [World.cell?_alloc_past, World.cell?_alloc_at, World.frozen?_alloc_past, World.frozen?_alloc_at, World.frozen?_setCell, World.cell?_drew, World.frozen?_drew]) <;> first | (with_reducible assumption) | rfl)))
    have all_z : w.heap.size < w2.heap.size := by omega
    clear c_s0 c_s1 c_s2 c_s3 c_s4 c_s5 z_s
    obtain ⟨c_s0, c_s1, c_s2, c_s3, c_s4, c_s5⟩ := all_c
    try clear all_c
    have z_s := all_z
    try clear all_z
    have hB2 : Below w.heap.size w w2 := by (repeat (first | (with_reducible exact Below.refl _ _) | (with_reducible assumption) | (with_reducible exact Hid.out (by with_reducible assumption)) | (with_reducible refine Below.alloc ?_ ?_ _) | (with_reducible refine Below.setCell ?_ ?_ _) | (with_reducible refine below_drewN ?_ _) | (with_reducible refine Below.drew ?_) | (with_reducible refine below_via (by with_reducible assumption) ?_ ?_) | (first | (with_reducible assumption) | omega | (simp only [World.size_alloc, World.size_setCell, World.size_drew, World.heap_drewN] <;> omega) | (simp <;> omega))))
    go_wp2_with fail
    refine (BI.out _ hB2).mono ?_
    rintro e w3 ⟨v, u, rfl, o1, o2, hb3⟩
    have hz_w3 := hb3.size
    try simp only [World.size_alloc, World.size_setCell] at hz_w3
    have all_c : w3.cell? ⟨w.heap.size, 0, none⟩ = some (.int .i64 seg) ∧ w3.cell? ⟨w.heap.size, 1, none⟩ = some (.slice wa lw wc) ∧ w3.cell? ⟨w.heap.size, 2, none⟩ = some (.slice ka lk kc) ∧ w3.cell? ⟨w.heap.size, 3, none⟩ = some (.slice va lv vc) ∧ w3.cell? ⟨w.heap.size, 4, none⟩ = some (.slice ca lc cc) ∧ w3.cell? ⟨w.heap.size, 5, none⟩ = some (.int .u64 laid) := by refine ⟨?_, ?_, ?_, ?_, ?_, ?_⟩ <;> (refine (hb3.cell ?_).trans ?_ <;> first | (first | (with_reducible assumption) | omega | (simp only [World.size_alloc, World.size_setCell, World.size_drew, World.heap_drewN] <;> omega) | (simp <;> omega)) | (first | (with_reducible assumption) | ((try simp (disch := first | omega | (simp only [World.size_alloc, World.size_setCell, World.size_drew, World.heap_drewN] <;> omega) | fail) only [World.cell?_alloc_past, World.cell?_alloc_at, World.frozen?_alloc_past, World.frozen?_alloc_at, World.frozen?_setCell, World.cell?_drew, World.frozen?_drew]) <;> first | (with_reducible assumption) | rfl)))
    have all_z : w.heap.size < w3.heap.size := by omega
    clear c_s0 c_s1 c_s2 c_s3 c_s4 c_s5 z_s
    obtain ⟨c_s0, c_s1, c_s2, c_s3, c_s4, c_s5⟩ := all_c
    try clear all_c
    have z_s := all_z
    try clear all_z
    have hB3 : Below w.heap.size w w3 := by (repeat (first | (with_reducible exact Below.refl _ _) | (with_reducible assumption) | (with_reducible exact Hid.out (by with_reducible assumption)) | (with_reducible refine Below.alloc ?_ ?_ _) | (with_reducible refine Below.setCell ?_ ?_ _) | (with_reducible refine below_drewN ?_ _) | (with_reducible refine Below.drew ?_) | (with_reducible refine below_via (by with_reducible assumption) ?_ ?_) | (first | (with_reducible assumption) | omega | (simp only [World.size_alloc, World.size_setCell, World.size_drew, World.heap_drewN] <;> omega) | (simp <;> omega))))
    obtain ⟨ma, mc, rfl, -⟩ := owns_news o1
    obtain ⟨ca', cc', rfl, -⟩ := owns_news o2
    rw [HL1.out, HL2.out]
    clear o1 o2
    go_wp2
    go_ret
    exact ⟨by simp, by (repeat (first | (with_reducible exact Below.refl _ _) | (with_reducible assumption) | (with_reducible exact Hid.out (by with_reducible assumption)) | (with_reducible refine Below.alloc ?_ ?_ _) | (with_reducible refine Below.setCell ?_ ?_ _) | (with_reducible refine below_drewN ?_ _) | (with_reducible refine Below.drew ?_) | (with_reducible refine below_via (by with_reducible assumption) ?_ ?_) | (first | (with_reducible assumption) | omega | (simp only [World.size_alloc, World.size_setCell, World.size_drew, World.heap_drewN] <;> omega) | (simp <;> omega))))⟩

set_option maxRecDepth 100000 in
set_option maxHeartbeats 4000000 in
theorem Another_in (seg : Int) (wa ka va ca : Option Addr) (wc kc vc cc lw lk lv lc : Nat) (laid by' : Int) (L : Int) (lm j : Nat) (bm bc : List Int) (hl1 : bm.length = lm) (hl2 : bc.length = lm) (hlm : lm ≤ 100000) (hj : j < lm) (w : World) (GR : Hid (∀ W, Calls Try.prog 19 #[.agg #[.int .i64 seg, .slice wa lw wc, .slice ka lk kc, .slice va lv vc, .slice ca lc cc, .int .u64 laid], .int .i64 600] W (AnsB W (.bool false)))) (BI : Hid (∀ W, Below w.heap.size w W → Calls Try.prog 21 #[.agg #[.int .i64 seg, .slice wa lw wc, .slice ka lk kc, .slice va lv vc, .slice ca lc cc, .int .u64 laid]] W (FreshIx2 W L bm bc (.int .i64 0))))
    (TWI : Hid (∀ xa xb xc xd W, IsRow .i64 W xa bm → IsRow .i64 W xb bc → Calls Try.prog 11 #[ixV L xa lm xc xb lm xd] W (FreshIx W L bm bc)))
    (O1 : Hid (∀ xa xb xc xd W, Below w.heap.size w W → IsRow .i64 W xa (bm.set j (wrap64 (bm.getD j 0 + by'))) → IsRow .i64 W xb bc → Calls Try.prog 23 #[ixV L xa lm xc xb lm xd, .agg #[.int .i64 seg, .slice wa lw wc, .slice ka lk kc, .slice va lv vc, .slice ca lc cc, .int .u64 laid]] W (AnsB W (.tuple #[.bool (by' == 0), .int .i64 0]))))
    (O2 : Hid (∀ xa xb xc xd W, Below w.heap.size w W → IsRow .i64 W xa bm → IsRow .i64 W xb (bc.set j (wrap64 (bc.getD j 0 + by'))) → Calls Try.prog 23 #[ixV L xa lm xc xb lm xd, .agg #[.int .i64 seg, .slice wa lw wc, .slice ka lk kc, .slice va lv vc, .slice ca lc cc, .int .u64 laid]] W (AnsB W (.tuple #[.bool (by' == 0), .int .i64 0])))) :
    Calls Try.prog 7 #[.agg #[.int .i64 seg, .slice wa lw wc, .slice ka lk kc, .slice va lv vc, .slice ca lc cc, .int .u64 laid], .int .i64 j, .int .i64 by'] w (AnsB w (.bool true)) := by
  have AL := Lib.hid alive_ok
  have HLM := Lib.hid hl1
  have HLC := Lib.hid hl2
  clear hl1 hl2
  go_enter Try.func7, Try.ntmps7
  go_wp2_with fail
  refine (AL.out _).mono ?_
  rintro e w1 ⟨rfl, hb1⟩
  have hz_w1 := hb1.size
  try simp only [World.size_alloc, World.size_setCell] at hz_w1
  have all_c : w1.cell? ⟨w.heap.size, 0, none⟩ = some (.int .i64 seg) ∧ w1.cell? ⟨w.heap.size, 1, none⟩ = some (.slice wa lw wc) ∧ w1.cell? ⟨w.heap.size, 2, none⟩ = some (.slice ka lk kc) ∧ w1.cell? ⟨w.heap.size, 3, none⟩ = some (.slice va lv vc) ∧ w1.cell? ⟨w.heap.size, 4, none⟩ = some (.slice ca lc cc) ∧ w1.cell? ⟨w.heap.size, 5, none⟩ = some (.int .u64 laid) := by refine ⟨?_, ?_, ?_, ?_, ?_, ?_⟩ <;> (refine (hb1.cell ?_).trans ?_ <;> first | (first | (with_reducible assumption) | omega | (simp only [World.size_alloc, World.size_setCell, World.size_drew, World.heap_drewN] <;> omega) | (simp <;> omega)) | (first | (with_reducible assumption) | ((try simp (disch := first | omega | (simp only [World.size_alloc, World.size_setCell, World.size_drew, World.heap_drewN] <;> omega) | fail) only [World.cell?_alloc_past, World.cell?_alloc_at, World.frozen?_alloc_past, World.frozen?_alloc_at, World.frozen?_setCell, World.cell?_drew, World.frozen?_drew]) <;> first | (with_reducible assumption) | rfl)))
  have all_z : w.heap.size < w1.heap.size := by omega
  obtain ⟨c_s0, c_s1, c_s2, c_s3, c_s4, c_s5⟩ := all_c
  try clear all_c
  have z_s := all_z
  try clear all_z
  have hB1 : Below w.heap.size w w1 := by (repeat (first | (with_reducible exact Below.refl _ _) | (with_reducible assumption) | (with_reducible exact Hid.out (by with_reducible assumption)) | (with_reducible refine Below.alloc ?_ ?_ _) | (with_reducible refine Below.setCell ?_ ?_ _) | (with_reducible refine below_drewN ?_ _) | (with_reducible refine Below.drew ?_) | (with_reducible refine below_via (by with_reducible assumption) ?_ ?_) | (first | (with_reducible assumption) | omega | (simp only [World.size_alloc, World.size_setCell, World.size_drew, World.heap_drewN] <;> omega) | (simp <;> omega))))
  go_wp2_with fail
  refine (GR.out _).mono ?_
  rintro e w2 ⟨rfl, hb2⟩
  have hz_w2 := hb2.size
  try simp only [World.size_alloc, World.size_setCell] at hz_w2
  have all_c : w2.cell? ⟨w.heap.size, 0, none⟩ = some (.int .i64 seg) ∧ w2.cell? ⟨w.heap.size, 1, none⟩ = some (.slice wa lw wc) ∧ w2.cell? ⟨w.heap.size, 2, none⟩ = some (.slice ka lk kc) ∧ w2.cell? ⟨w.heap.size, 3, none⟩ = some (.slice va lv vc) ∧ w2.cell? ⟨w.heap.size, 4, none⟩ = some (.slice ca lc cc) ∧ w2.cell? ⟨w.heap.size, 5, none⟩ = some (.int .u64 laid) := by refine ⟨?_, ?_, ?_, ?_, ?_, ?_⟩ <;> (refine (hb2.cell ?_).trans ?_ <;> first | (first | (with_reducible assumption) | omega | (simp only [World.size_alloc, World.size_setCell, World.size_drew, World.heap_drewN] <;> omega) | (simp <;> omega)) | (first | (with_reducible assumption) | ((try simp (disch := first | omega | (simp only [World.size_alloc, World.size_setCell, World.size_drew, World.heap_drewN] <;> omega) | fail) only [World.cell?_alloc_past, World.cell?_alloc_at, World.frozen?_alloc_past, World.frozen?_alloc_at, World.frozen?_setCell, World.cell?_drew, World.frozen?_drew]) <;> first | (with_reducible assumption) | rfl)))
  have all_z : w.heap.size < w2.heap.size := by omega
  clear c_s0 c_s1 c_s2 c_s3 c_s4 c_s5 z_s
  obtain ⟨c_s0, c_s1, c_s2, c_s3, c_s4, c_s5⟩ := all_c
  try clear all_c
  have z_s := all_z
  try clear all_z
  have hB2 : Below w.heap.size w w2 := by (repeat (first | (with_reducible exact Below.refl _ _) | (with_reducible assumption) | (with_reducible exact Hid.out (by with_reducible assumption)) | (with_reducible refine Below.alloc ?_ ?_ _) | (with_reducible refine Below.setCell ?_ ?_ _) | (with_reducible refine below_drewN ?_ _) | (with_reducible refine Below.drew ?_) | (with_reducible refine below_via (by with_reducible assumption) ?_ ?_) | (first | (with_reducible assumption) | omega | (simp only [World.size_alloc, World.size_setCell, World.size_drew, World.heap_drewN] <;> omega) | (simp <;> omega))))
  go_wp2_with fail
  refine (BI.out _ hB2).mono ?_
  rintro e w3 ⟨v, u, rfl, o1, o2, hb3⟩
  have hz_w3 := hb3.size
  try simp only [World.size_alloc, World.size_setCell] at hz_w3
  have all_c : w3.cell? ⟨w.heap.size, 0, none⟩ = some (.int .i64 seg) ∧ w3.cell? ⟨w.heap.size, 1, none⟩ = some (.slice wa lw wc) ∧ w3.cell? ⟨w.heap.size, 2, none⟩ = some (.slice ka lk kc) ∧ w3.cell? ⟨w.heap.size, 3, none⟩ = some (.slice va lv vc) ∧ w3.cell? ⟨w.heap.size, 4, none⟩ = some (.slice ca lc cc) ∧ w3.cell? ⟨w.heap.size, 5, none⟩ = some (.int .u64 laid) := by refine ⟨?_, ?_, ?_, ?_, ?_, ?_⟩ <;> (refine (hb3.cell ?_).trans ?_ <;> first | (first | (with_reducible assumption) | omega | (simp only [World.size_alloc, World.size_setCell, World.size_drew, World.heap_drewN] <;> omega) | (simp <;> omega)) | (first | (with_reducible assumption) | ((try simp (disch := first | omega | (simp only [World.size_alloc, World.size_setCell, World.size_drew, World.heap_drewN] <;> omega) | fail) only [World.cell?_alloc_past, World.cell?_alloc_at, World.frozen?_alloc_past, World.frozen?_alloc_at, World.frozen?_setCell, World.cell?_drew, World.frozen?_drew]) <;> first | (with_reducible assumption) | rfl)))
  have all_z : w.heap.size < w3.heap.size := by omega
  clear c_s0 c_s1 c_s2 c_s3 c_s4 c_s5 z_s
  obtain ⟨c_s0, c_s1, c_s2, c_s3, c_s4, c_s5⟩ := all_c
  try clear all_c
  have z_s := all_z
  try clear all_z
  have hB3 : Below w.heap.size w w3 := by (repeat (first | (with_reducible exact Below.refl _ _) | (with_reducible assumption) | (with_reducible exact Hid.out (by with_reducible assumption)) | (with_reducible refine Below.alloc ?_ ?_ _) | (with_reducible refine Below.setCell ?_ ?_ _) | (with_reducible refine below_drewN ?_ _) | (with_reducible refine Below.drew ?_) | (with_reducible refine below_via (by with_reducible assumption) ?_ ?_) | (first | (with_reducible assumption) | omega | (simp only [World.size_alloc, World.size_setCell, World.size_drew, World.heap_drewN] <;> omega) | (simp <;> omega))))
  obtain ⟨ma, mc, rfl, i1, -, -, -, -⟩ := row_of_owns o1
  obtain ⟨ca2, cc2, rfl, i2, -, -, -, -⟩ := row_of_owns o2
  have TW := Lib.hid (fun W (hb : Below w3.heap.size w3 W) => TWI.out ma ca2 mc cc2 W (i1.below hb) (i2.below hb))
  rw [HLM.out, HLC.out]
  clear o1 o2 i1 i2 hb1 hb2 hb3 TWI BI GR AL
  go_upto_region 7 with (fail)
  generalize hwz : w3.alloc (.cells #[.int .i64 L, .slice ma lm mc, .slice ca2 lm cc2] 25) = wz
  replace c_s0 : wz.cell? ⟨w.heap.size, 0, none⟩ = some (.int .i64 seg) := by rw [← hwz]; (first | (with_reducible assumption) | ((simp only [World.frozen?_setCell, World.frozen?_drew, World.frozen?_drewN]) <;> (with_reducible assumption)) | ((repeat (first | (with_reducible assumption) | (with_reducible refine World.cell?_setCell_same _ _ _ (by with_reducible assumption)) | (rw [World.cell?_setCell_other _ _ _ _ (by intro e; simp at e; done)]) | (with_reducible refine cell_setCell_block ?_ ?_) | (rw [World.cell?_drew]) | (rw [World.cell?_drewN]) | (dsimp only; omega))); done) | (first | (with_reducible assumption) | ((try simp (disch := first | omega | (simp only [World.size_alloc, World.size_setCell, World.size_drew, World.heap_drewN] <;> omega) | fail) only [World.cell?_alloc_past, World.cell?_alloc_at, World.frozen?_alloc_past, World.frozen?_alloc_at, World.frozen?_setCell, World.cell?_drew, World.frozen?_drew]) <;> first | (with_reducible assumption) | rfl)))
  replace c_s1 : wz.cell? ⟨w.heap.size, 1, none⟩ = some (.slice wa lw wc) := by rw [← hwz]; (first | (with_reducible assumption) | ((simp only [World.frozen?_setCell, World.frozen?_drew, World.frozen?_drewN]) <;> (with_reducible assumption)) | ((repeat (first | (with_reducible assumption) | (with_reducible refine World.cell?_setCell_same _ _ _ (by with_reducible assumption)) | (rw [World.cell?_setCell_other _ _ _ _ (by intro e; simp at e; done)]) | (with_reducible refine cell_setCell_block ?_ ?_) | (rw [World.cell?_drew]) | (rw [World.cell?_drewN]) | (dsimp only; omega))); done) | (first | (with_reducible assumption) | ((try simp (disch := first | omega | (simp only [World.size_alloc, World.size_setCell, World.size_drew, World.heap_drewN] <;> omega) | fail) only [World.cell?_alloc_past, World.cell?_alloc_at, World.frozen?_alloc_past, World.frozen?_alloc_at, World.frozen?_setCell, World.cell?_drew, World.frozen?_drew]) <;> first | (with_reducible assumption) | rfl)))
  replace c_s2 : wz.cell? ⟨w.heap.size, 2, none⟩ = some (.slice ka lk kc) := by rw [← hwz]; (first | (with_reducible assumption) | ((simp only [World.frozen?_setCell, World.frozen?_drew, World.frozen?_drewN]) <;> (with_reducible assumption)) | ((repeat (first | (with_reducible assumption) | (with_reducible refine World.cell?_setCell_same _ _ _ (by with_reducible assumption)) | (rw [World.cell?_setCell_other _ _ _ _ (by intro e; simp at e; done)]) | (with_reducible refine cell_setCell_block ?_ ?_) | (rw [World.cell?_drew]) | (rw [World.cell?_drewN]) | (dsimp only; omega))); done) | (first | (with_reducible assumption) | ((try simp (disch := first | omega | (simp only [World.size_alloc, World.size_setCell, World.size_drew, World.heap_drewN] <;> omega) | fail) only [World.cell?_alloc_past, World.cell?_alloc_at, World.frozen?_alloc_past, World.frozen?_alloc_at, World.frozen?_setCell, World.cell?_drew, World.frozen?_drew]) <;> first | (with_reducible assumption) | rfl)))
  replace c_s3 : wz.cell? ⟨w.heap.size, 3, none⟩ = some (.slice va lv vc) := by rw [← hwz]; (first | (with_reducible assumption) | ((simp only [World.frozen?_setCell, World.frozen?_drew, World.frozen?_drewN]) <;> (with_reducible assumption)) | ((repeat (first | (with_reducible assumption) | (with_reducible refine World.cell?_setCell_same _ _ _ (by with_reducible assumption)) | (rw [World.cell?_setCell_other _ _ _ _ (by intro e; simp at e; done)]) | (with_reducible refine cell_setCell_block ?_ ?_) | (rw [World.cell?_drew]) | (rw [World.cell?_drewN]) | (dsimp only; omega))); done) | (first | (with_reducible assumption) | ((try simp (disch := first | omega | (simp only [World.size_alloc, World.size_setCell, World.size_drew, World.heap_drewN] <;> omega) | fail) only [World.cell?_alloc_past, World.cell?_alloc_at, World.frozen?_alloc_past, World.frozen?_alloc_at, World.frozen?_setCell, World.cell?_drew, World.frozen?_drew]) <;> first | (with_reducible assumption) | rfl)))
  replace c_s4 : wz.cell? ⟨w.heap.size, 4, none⟩ = some (.slice ca lc cc) := by rw [← hwz]; (first | (with_reducible assumption) | ((simp only [World.frozen?_setCell, World.frozen?_drew, World.frozen?_drewN]) <;> (with_reducible assumption)) | ((repeat (first | (with_reducible assumption) | (with_reducible refine World.cell?_setCell_same _ _ _ (by with_reducible assumption)) | (rw [World.cell?_setCell_other _ _ _ _ (by intro e; simp at e; done)]) | (with_reducible refine cell_setCell_block ?_ ?_) | (rw [World.cell?_drew]) | (rw [World.cell?_drewN]) | (dsimp only; omega))); done) | (first | (with_reducible assumption) | ((try simp (disch := first | omega | (simp only [World.size_alloc, World.size_setCell, World.size_drew, World.heap_drewN] <;> omega) | fail) only [World.cell?_alloc_past, World.cell?_alloc_at, World.frozen?_alloc_past, World.frozen?_alloc_at, World.frozen?_setCell, World.cell?_drew, World.frozen?_drew]) <;> first | (with_reducible assumption) | rfl)))
  replace c_s5 : wz.cell? ⟨w.heap.size, 5, none⟩ = some (.int .u64 laid) := by rw [← hwz]; (first | (with_reducible assumption) | ((simp only [World.frozen?_setCell, World.frozen?_drew, World.frozen?_drewN]) <;> (with_reducible assumption)) | ((repeat (first | (with_reducible assumption) | (with_reducible refine World.cell?_setCell_same _ _ _ (by with_reducible assumption)) | (rw [World.cell?_setCell_other _ _ _ _ (by intro e; simp at e; done)]) | (with_reducible refine cell_setCell_block ?_ ?_) | (rw [World.cell?_drew]) | (rw [World.cell?_drewN]) | (dsimp only; omega))); done) | (first | (with_reducible assumption) | ((try simp (disch := first | omega | (simp only [World.size_alloc, World.size_setCell, World.size_drew, World.heap_drewN] <;> omega) | fail) only [World.cell?_alloc_past, World.cell?_alloc_at, World.frozen?_alloc_past, World.frozen?_alloc_at, World.frozen?_setCell, World.cell?_drew, World.frozen?_drew]) <;> first | (with_reducible assumption) | rfl)))
  replace z_s : w.heap.size < wz.heap.size := by rw [← hwz]; (first | (with_reducible assumption) | omega | (simp only [World.size_alloc, World.size_setCell, World.size_drew, World.heap_drewN] <;> omega) | (simp <;> omega))
  have c_x0 : wz.cell? ⟨w3.heap.size, 0, none⟩ = some (.int .i64 L) := by rw [← hwz]; (first | (with_reducible assumption) | ((simp only [World.frozen?_setCell, World.frozen?_drew, World.frozen?_drewN]) <;> (with_reducible assumption)) | ((repeat (first | (with_reducible assumption) | (with_reducible refine World.cell?_setCell_same _ _ _ (by with_reducible assumption)) | (rw [World.cell?_setCell_other _ _ _ _ (by intro e; simp at e; done)]) | (with_reducible refine cell_setCell_block ?_ ?_) | (rw [World.cell?_drew]) | (rw [World.cell?_drewN]) | (dsimp only; omega))); done) | (first | (with_reducible assumption) | ((try simp (disch := first | omega | (simp only [World.size_alloc, World.size_setCell, World.size_drew, World.heap_drewN] <;> omega) | fail) only [World.cell?_alloc_past, World.cell?_alloc_at, World.frozen?_alloc_past, World.frozen?_alloc_at, World.frozen?_setCell, World.cell?_drew, World.frozen?_drew]) <;> first | (with_reducible assumption) | rfl)))
  have c_x1 : wz.cell? ⟨w3.heap.size, 1, none⟩ = some (.slice ma lm mc) := by rw [← hwz]; (first | (with_reducible assumption) | ((simp only [World.frozen?_setCell, World.frozen?_drew, World.frozen?_drewN]) <;> (with_reducible assumption)) | ((repeat (first | (with_reducible assumption) | (with_reducible refine World.cell?_setCell_same _ _ _ (by with_reducible assumption)) | (rw [World.cell?_setCell_other _ _ _ _ (by intro e; simp at e; done)]) | (with_reducible refine cell_setCell_block ?_ ?_) | (rw [World.cell?_drew]) | (rw [World.cell?_drewN]) | (dsimp only; omega))); done) | (first | (with_reducible assumption) | ((try simp (disch := first | omega | (simp only [World.size_alloc, World.size_setCell, World.size_drew, World.heap_drewN] <;> omega) | fail) only [World.cell?_alloc_past, World.cell?_alloc_at, World.frozen?_alloc_past, World.frozen?_alloc_at, World.frozen?_setCell, World.cell?_drew, World.frozen?_drew]) <;> first | (with_reducible assumption) | rfl)))
  have c_x2 : wz.cell? ⟨w3.heap.size, 2, none⟩ = some (.slice ca2 lm cc2) := by rw [← hwz]; (first | (with_reducible assumption) | ((simp only [World.frozen?_setCell, World.frozen?_drew, World.frozen?_drewN]) <;> (with_reducible assumption)) | ((repeat (first | (with_reducible assumption) | (with_reducible refine World.cell?_setCell_same _ _ _ (by with_reducible assumption)) | (rw [World.cell?_setCell_other _ _ _ _ (by intro e; simp at e; done)]) | (with_reducible refine cell_setCell_block ?_ ?_) | (rw [World.cell?_drew]) | (rw [World.cell?_drewN]) | (dsimp only; omega))); done) | (first | (with_reducible assumption) | ((try simp (disch := first | omega | (simp only [World.size_alloc, World.size_setCell, World.size_drew, World.heap_drewN] <;> omega) | fail) only [World.cell?_alloc_past, World.cell?_alloc_at, World.frozen?_alloc_past, World.frozen?_alloc_at, World.frozen?_setCell, World.cell?_drew, World.frozen?_drew]) <;> first | (with_reducible assumption) | rfl)))
  have z_x : w3.heap.size < wz.heap.size := by rw [← hwz]; (first | (with_reducible assumption) | omega | (simp only [World.size_alloc, World.size_setCell, World.size_drew, World.heap_drewN] <;> omega) | (simp <;> omega))
  have HS : Hid (Below w3.heap.size w3 wz) := by rw [← hwz]; exact Lib.hid ((Below.refl _ _).alloc (Nat.le_refl _) _)
  have hBz : Below w.heap.size w wz := below_via HS.out hB3 (by omega)
  clear hwz
  refine wp_region_two 6 (by kernel_rfl) (N := 130) rfl (by kernel_rfl) (by kernel_rfl) (by decide) (fun w' => Below wz.heap.size wz w') RB (factRAt [.is (ixV L ma lm mc ca2 lm cc2), .ix wz.heap.size L bm bc, .is (ixV L ma lm mc ca2 lm cc2), .ix wz.heap.size L bm bc, .box wz.heap.size 25 3, .box wz.heap.size 25 3]) TwinR (factRAt_stays _) (Below.refl _ _).drew ?steps ?fin
  case steps =>
    refine ⟨?o0, ?o1, ?o2, ?o3, ?o4, ?o5, trivial⟩
    case o0 =>
      intro u a w' ev hJ hd Dn hD K hK
      have e8 : a.tmps.getD 8 undef = .pointer (some ⟨w3.heap.size, 0, none⟩) := ev 8 (by decide)
      have g0 := (hJ.cell (p := ⟨w3.heap.size, 0, none⟩) (by dsimp only; omega)).trans c_x0
      have g1 := (hJ.cell (p := ⟨w3.heap.size, 1, none⟩) (by dsimp only; omega)).trans c_x1
      have g2 := (hJ.cell (p := ⟨w3.heap.size, 2, none⟩) (by dsimp only; omega)).trans c_x2
      have HK := Lib.hid hK
      clear hK ev hd hD
      go_simp
      exact HK.out _ _ (fun h => by cases h) hJ rfl (fun j p _ _ => twinR_load (by decide)) (Below.refl _ _)
    case o1 =>
      intro u a w' ev hJ hd Dn hD K hK
      have e71 : a.tmps.getD 71 undef = ixV L ma lm mc ca2 lm cc2 := (ev 71 (by decide)).trans (hd 0 _ (by kernel_rfl) rfl)
      have HK := Lib.hid hK
      have HC := Lib.hid (TW.out w' (below_via hJ HS.out (by omega)))
      have hzJ := hJ.size
      have HD := Lib.hid hD
      clear hK ev hd hD
      go_simp
      refine HC.out.mono ?_
      rintro e w'' ⟨v, u', rfl, o1, o2, hb⟩
      refine HK.out _ _ (fun h => by cases h) (hJ.trans (hb.mono hzJ)) ⟨_, _, rfl, owns_base o1 hzJ, owns_base o2 hzJ⟩ (fun j p hj hp => twinR_call (B := wz.heap.size) (L := L) (ms := bm) (cs := bc) (by decide) (fun h => ?_) o1 o2) hb
      rcases h with rfl | rfl <;> exact HD.out _ _ hj hp
    case o2 =>
      intro u a w' ev hJ hd Dn hD K hK
      have e8 : a.tmps.getD 8 undef = .pointer (some ⟨w3.heap.size, 0, none⟩) := ev 8 (by decide)
      have g0 := (hJ.cell (p := ⟨w3.heap.size, 0, none⟩) (by dsimp only; omega)).trans c_x0
      have g1 := (hJ.cell (p := ⟨w3.heap.size, 1, none⟩) (by dsimp only; omega)).trans c_x1
      have g2 := (hJ.cell (p := ⟨w3.heap.size, 2, none⟩) (by dsimp only; omega)).trans c_x2
      have HK := Lib.hid hK
      clear hK ev hd hD
      go_simp
      exact HK.out _ _ (fun h => by cases h) hJ rfl (fun j p _ _ => twinR_load (by decide)) (Below.refl _ _)
    case o3 =>
      intro u a w' ev hJ hd Dn hD K hK
      have e73 : a.tmps.getD 73 undef = ixV L ma lm mc ca2 lm cc2 := (ev 73 (by decide)).trans (hd 2 _ (by kernel_rfl) rfl)
      have HK := Lib.hid hK
      have HC := Lib.hid (TW.out w' (below_via hJ HS.out (by omega)))
      have hzJ := hJ.size
      have HD := Lib.hid hD
      clear hK ev hd hD
      go_simp
      refine HC.out.mono ?_
      rintro e w'' ⟨v, u', rfl, o1, o2, hb⟩
      refine HK.out _ _ (fun h => by cases h) (hJ.trans (hb.mono hzJ)) ⟨_, _, rfl, owns_base o1 hzJ, owns_base o2 hzJ⟩ (fun j p hj hp => twinR_call (B := wz.heap.size) (L := L) (ms := bm) (cs := bc) (by decide) (fun h => ?_) o1 o2) hb
      rcases h with rfl | rfl <;> exact HD.out _ _ hj hp
    case o4 =>
      intro u a w' ev hJ hd Dn hD K hK
      have HK := Lib.hid hK
      have hzJ := hJ.size
      have HJ := Lib.hid hJ
      have HD := Lib.hid hD
      clear hK ev hd hJ hD
      go_simp
      refine HK.out _ _ (fun h => by cases h) (HJ.out.alloc hzJ _) ⟨_, _, rfl, hzJ, alloc_new _ _, rfl⟩ (fun j p hj hp => twinR_alloc (B := wz.heap.size) (n := 3) (t := 25) (by decide) fun h => ?_) ((Below.refl _ _).alloc (Nat.le_refl _) _)
      rcases h with rfl | rfl <;> exact HD.out _ _ hj hp
    case o5 =>
      intro u a w' ev hJ hd Dn hD K hK
      have HK := Lib.hid hK
      have hzJ := hJ.size
      have HJ := Lib.hid hJ
      have HD := Lib.hid hD
      clear hK ev hd hJ hD
      go_simp
      refine HK.out _ _ (fun h => by cases h) (HJ.out.alloc hzJ _) ⟨_, _, rfl, hzJ, alloc_new _ _, rfl⟩ (fun j p hj hp => twinR_alloc (B := wz.heap.size) (n := 3) (t := 25) (by decide) fun h => ?_) ((Below.refl _ _).alloc (Nat.le_refl _) _)
      rcases h with rfl | rfl <;> exact HD.out _ _ hj hp
  case fin =>
    intro u wy hJ hG hR
    obtain ⟨x1, y1, h1, o1, o2⟩ : (FactR.ix wz.heap.size L bm bc).holds (u 72) wy := hG 1 _ rfl
    obtain ⟨x2, y2, h2, p1, p2⟩ : (FactR.ix wz.heap.size L bm bc).holds (u 74) wy := hG 3 _ rfl
    have hAP : IxApart (u 72) (u 74) := (hR 1 3 _ _ (by decide) rfl rfl).1 (by decide)
    rw [h1, h2] at hAP
    obtain ⟨ap1, ap2⟩ := hAP _ _ _ _ _ _ rfl rfl
    obtain ⟨b5, cs5, h5, hz5, hh5, hn5⟩ : (FactR.box wz.heap.size 25 3).holds (u 10) wy := hG 4 _ rfl
    obtain ⟨b6, cs6, h6, hz6, hh6, hn6⟩ : (FactR.box wz.heap.size 25 3).holds (u 11) wy := hG 5 _ rfl
    have h56 : b5 ≠ b6 := fun e => (show u 10 ≠ u 11 from (hR 4 5 _ _ (by decide) rfl rfl).2 (by decide)) (by rw [h5, h6, e])
    rw [HLM.out] at o1 p1
    rw [HLC.out] at o2 p2
    have n15 := row_apart hh5 o1 (by decide)
    have n16 := row_apart hh6 o1 (by decide)
    have n25 := row_apart hh5 o2 (by decide)
    have n26 := row_apart hh6 o2 (by decide)
    have n35 := row_apart hh5 p1 (by decide)
    have n36 := row_apart hh6 p1 (by decide)
    have n45 := row_apart hh5 p2 (by decide)
    have n46 := row_apart hh6 p2 (by decide)
    obtain ⟨d0, d1, d2, k0, k1, k2, f0, f1, f2⟩ := box_three hh5 hn5
    obtain ⟨e0, e1, e2, m0, m1, m2, j0, j1, j2⟩ := box_three hh6 hn6
    have hlb5 := World.block_lt_of_cell? _ _ k0
    have hlb6 := World.block_lt_of_cell? _ _ m0
    dsimp only at hlb5 hlb6
    obtain ⟨xa, xc, rfl, -⟩ := owns_news o1
    obtain ⟨ya, yc, rfl, -⟩ := owns_news o2
    obtain ⟨xa2, xc2, rfl, -⟩ := owns_news p1
    obtain ⟨ya2, yc2, rfl, -⟩ := owns_news p2
    have HN1 := Lib.hid ap1
    have HN2 := Lib.hid ap2
    have HQ1 := Lib.hid (And.intro o1 (And.intro n15 n16))
    have HQ2 := Lib.hid (And.intro o2 (And.intro n25 n26))
    have HQ3 := Lib.hid (And.intro p1 (And.intro n35 n36))
    have HQ4 := Lib.hid (And.intro p2 (And.intro n45 n46))
    have HJ := Lib.hid hJ
    have hzJ := hJ.size
    have HTB := Lib.hid (two_boxes h56 k0 k1 k2 m0 m1 m2 ((((((wy.setCell ⟨b5, 0, none⟩ (.int .i64 L)).setCell ⟨b5, 1, none⟩ (.slice xa lm xc)).setCell ⟨b5, 2, none⟩ (.slice ya lm yc)).setCell ⟨b6, 0, none⟩ (.int .i64 L)).setCell ⟨b6, 1, none⟩ (.slice xa2 lm xc2)).setCell ⟨b6, 2, none⟩ (.slice ya2 lm yc2)) rfl)
    clear hG hR hAP ap1 ap2 o1 o2 p1 p2 n15 n16 n25 n26 n35 n36 n45 n46 hh5 hh6 hn5 hn6 hJ
    simp only [mixFrame, mixL, dstsOf, List.take_succ_cons, List.take_zero, List.filterMap_cons, List.filterMap_nil, List.contains_cons, List.contains_nil, Nat.reduceBEq, Bool.or_false, Bool.false_or, Bool.or_true, Bool.true_or, if_true, if_false, Bool.false_eq_true, Nat.reduceAdd, Nat.zero_add, List.drop_succ_cons, List.drop_zero, h1, h2, h5, h6]
    clear h1 h2 h5 h6
    go_upto_region 8 with (fail)
    generalize ((((((wy.setCell ⟨b5, 0, none⟩ (.int .i64 L)).setCell ⟨b5, 1, none⟩ (.slice xa lm xc)).setCell ⟨b5, 2, none⟩ (.slice ya lm yc)).setCell ⟨b6, 0, none⟩ (.int .i64 L)).setCell ⟨b6, 1, none⟩ (.slice xa2 lm xc2)).setCell ⟨b6, 2, none⟩ (.slice ya2 lm yc2)) = w9 at *
    obtain ⟨c_y0, c_y1, c_y2, c_v0, c_v1, c_v2, hz9, hq9, hb9⟩ := HTB.out
    have HJ9 := Lib.hid (hb9 HJ.out hz5 hz6)
    have HO1 := Lib.hid (owns_heap (W' := w9) HQ1.out.1 fun k hk => hq9 k (HQ1.out.2.1 k hk) (HQ1.out.2.2 k hk))
    have HO2 := Lib.hid (owns_heap (W' := w9) HQ2.out.1 fun k hk => hq9 k (HQ2.out.2.1 k hk) (HQ2.out.2.2 k hk))
    have HP1 := Lib.hid (owns_heap (W' := w9) HQ3.out.1 fun k hk => hq9 k (HQ3.out.2.1 k hk) (HQ3.out.2.2 k hk))
    have HP2 := Lib.hid (owns_heap (W' := w9) HQ4.out.1 fun k hk => hq9 k (HQ4.out.2.1 k hk) (HQ4.out.2.2 k hk))
    have hY : b5 < w9.heap.size ∧ b6 < w9.heap.size := by omega
    obtain ⟨z_y, z_v⟩ := hY
    have HNB1 := Lib.hid (And.intro HQ1.out.2 HQ2.out.2)
    have HNB2 := Lib.hid (And.intro HQ3.out.2 HQ4.out.2)
    clear HTB k0 k1 k2 m0 m1 m2 f0 f1 f2 j0 j1 j2 HQ1 HQ2 HQ3 HQ4 hq9 hb9 HJ hzJ hlb5 hlb6
    obtain ⟨g1, rfl, hg1, hg1'⟩ := own_form HO1.out (by omega)
    obtain ⟨g2, rfl, hg2, hg2'⟩ := own_form HO2.out (by omega)
    obtain ⟨g3, rfl, hg3, hg3'⟩ := own_form HP1.out (by omega)
    obtain ⟨g4, rfl, hg4, hg4'⟩ := own_form HP2.out (by omega)
    have n13 : g1 ≠ g3 := HN1.out _ _ rfl rfl
    have n24 : g2 ≠ g4 := HN2.out _ _ rfl rfl
    have nb1 := HNB1.out.1.1 _ rfl
    have nc1 := HNB1.out.1.2 _ rfl
    have nb2 := HNB1.out.2.1 _ rfl
    have nc2 := HNB1.out.2.2 _ rfl
    have nb3 := HNB2.out.1.1 _ rfl
    have nc3 := HNB2.out.1.2 _ rfl
    have nb4 := HNB2.out.2.1 _ rfl
    have nc4 := HNB2.out.2.2 _ rfl
    have n12 : g1 ≠ g2 := by
      rcases owns_apart HO1.out HO2.out (by decide) with h | h
      · cases h
      · intro e; exact h (by rw [e]; rfl)
    have n14 : g1 ≠ g4 := by
      rcases owns_apart HO1.out HP2.out (by decide) with h | h
      · cases h
      · intro e; exact h (by rw [e]; rfl)
    have n34 : g3 ≠ g4 := by
      rcases owns_apart HP1.out HP2.out (by decide) with h | h
      · cases h
      · intro e; exact h (by rw [e]; rfl)
    obtain ⟨d1, d2⟩ := own_cell HO1.out (j := j) (by rw [HLM.out]; exact hj)
    have HX : Hid (bm.getD j 0 = bm.getD j 0) := Lib.hid rfl
    generalize hX : bm.getD j 0 = X at O1 d1
    have HXX := Lib.hid hX
    clear hX HX HN1 HN2 HNB1 HNB2
    go_still_tail 10, (by kernel_rfl)
    go_upto_region 9 with (fail)
    have Sg1 := own_store HO1.out j (wrap64 (X + by'))
    have Rg1 : Hid (IsRow .i64 ((w9.setCell ⟨g1, j, none⟩ (.int .i64 (wrap64 (X + by')))).drew) (some ⟨g1, 0, none⟩) _) := Lib.hid Sg1.1
    have Qg1 : Hid (∀ q, q ≠ g1 → ((w9.setCell ⟨g1, j, none⟩ (.int .i64 (wrap64 (X + by')))).drew).heap[q]? = w9.heap[q]?) := Lib.hid Sg1.2.1
    have Zg1 : ((w9.setCell ⟨g1, j, none⟩ (.int .i64 (wrap64 (X + by')))).drew).heap.size = w9.heap.size := Sg1.2.2.1
    have Bg1 : Hid (Below wz.heap.size wz ((w9.setCell ⟨g1, j, none⟩ (.int .i64 (wrap64 (X + by')))).drew)) := Lib.hid (Sg1.2.2.2 HJ9.out hg1).drew
    clear Sg1
    generalize ((w9.setCell ⟨g1, j, none⟩ (.int .i64 (wrap64 (X + by')))).drew) = w10 at *
    have k_y0 : w10.cell? ⟨b5, 0, none⟩ = some (.int .i64 L) := (World.cell?_of_block (a := ⟨b5, 0, none⟩) (Qg1.out b5 nb1.symm)).trans c_y0
    have k_y1 : w10.cell? ⟨b5, 1, none⟩ = some (.slice (some ⟨g1, 0, none⟩) lm xc) := (World.cell?_of_block (a := ⟨b5, 1, none⟩) (Qg1.out b5 nb1.symm)).trans c_y1
    have k_y2 : w10.cell? ⟨b5, 2, none⟩ = some (.slice (some ⟨g2, 0, none⟩) lm yc) := (World.cell?_of_block (a := ⟨b5, 2, none⟩) (Qg1.out b5 nb1.symm)).trans c_y2
    have k_v0 : w10.cell? ⟨b6, 0, none⟩ = some (.int .i64 L) := (World.cell?_of_block (a := ⟨b6, 0, none⟩) (Qg1.out b6 nc1.symm)).trans c_v0
    have k_v1 : w10.cell? ⟨b6, 1, none⟩ = some (.slice (some ⟨g3, 0, none⟩) lm xc2) := (World.cell?_of_block (a := ⟨b6, 1, none⟩) (Qg1.out b6 nc1.symm)).trans c_v1
    have k_v2 : w10.cell? ⟨b6, 2, none⟩ = some (.slice (some ⟨g4, 0, none⟩) lm yc2) := (World.cell?_of_block (a := ⟨b6, 2, none⟩) (Qg1.out b6 nc1.symm)).trans c_v2
    clear c_y0 c_y1 c_y2 c_v0 c_v1 c_v2
    have c_y0 := k_y0
    have c_y1 := k_y1
    have c_y2 := k_y2
    have c_v0 := k_v0
    have c_v1 := k_v1
    have c_v2 := k_v2
    clear k_y0 k_y1 k_y2 k_v0 k_v1 k_v2
    have HO2' := Lib.hid (owns_heap (W' := w10) HO2.out fun k hk => Qg1.out k (by cases hk; exact n12.symm))
    have HP1' := Lib.hid (owns_heap (W' := w10) HP1.out fun k hk => Qg1.out k (by cases hk; exact n13.symm))
    have HP2' := Lib.hid (owns_heap (W' := w10) HP2.out fun k hk => Qg1.out k (by cases hk; exact n14.symm))
    obtain ⟨d3, d4⟩ := own_cell HP2'.out (j := j) (by rw [HLC.out]; exact hj)
    generalize hY : bc.getD j 0 = Y at O2 d3
    have HYY := Lib.hid hY
    clear hY d1 d2
    go_still_tail 10, (by kernel_rfl)
    go_upto_region 10 with (fail)
    have Sg4 := own_store HP2'.out j (wrap64 (Y + by'))
    have Rg4 : Hid (IsRow .i64 ((w10.setCell ⟨g4, j, none⟩ (.int .i64 (wrap64 (Y + by')))).drew) (some ⟨g4, 0, none⟩) _) := Lib.hid Sg4.1
    have Qg4 : Hid (∀ q, q ≠ g4 → ((w10.setCell ⟨g4, j, none⟩ (.int .i64 (wrap64 (Y + by')))).drew).heap[q]? = w10.heap[q]?) := Lib.hid Sg4.2.1
    have Zg4 : ((w10.setCell ⟨g4, j, none⟩ (.int .i64 (wrap64 (Y + by')))).drew).heap.size = w10.heap.size := Sg4.2.2.1
    have Bg4 : Hid (Below wz.heap.size wz ((w10.setCell ⟨g4, j, none⟩ (.int .i64 (wrap64 (Y + by')))).drew)) := Lib.hid (Sg4.2.2.2 Bg1.out hg4).drew
    clear Sg4
    generalize ((w10.setCell ⟨g4, j, none⟩ (.int .i64 (wrap64 (Y + by')))).drew) = w11 at *
    have k_y0 : w11.cell? ⟨b5, 0, none⟩ = some (.int .i64 L) := (World.cell?_of_block (a := ⟨b5, 0, none⟩) (Qg4.out b5 nb4.symm)).trans c_y0
    have k_y1 : w11.cell? ⟨b5, 1, none⟩ = some (.slice (some ⟨g1, 0, none⟩) lm xc) := (World.cell?_of_block (a := ⟨b5, 1, none⟩) (Qg4.out b5 nb4.symm)).trans c_y1
    have k_y2 : w11.cell? ⟨b5, 2, none⟩ = some (.slice (some ⟨g2, 0, none⟩) lm yc) := (World.cell?_of_block (a := ⟨b5, 2, none⟩) (Qg4.out b5 nb4.symm)).trans c_y2
    have k_v0 : w11.cell? ⟨b6, 0, none⟩ = some (.int .i64 L) := (World.cell?_of_block (a := ⟨b6, 0, none⟩) (Qg4.out b6 nc4.symm)).trans c_v0
    have k_v1 : w11.cell? ⟨b6, 1, none⟩ = some (.slice (some ⟨g3, 0, none⟩) lm xc2) := (World.cell?_of_block (a := ⟨b6, 1, none⟩) (Qg4.out b6 nc4.symm)).trans c_v1
    have k_v2 : w11.cell? ⟨b6, 2, none⟩ = some (.slice (some ⟨g4, 0, none⟩) lm yc2) := (World.cell?_of_block (a := ⟨b6, 2, none⟩) (Qg4.out b6 nc4.symm)).trans c_v2
    clear c_y0 c_y1 c_y2 c_v0 c_v1 c_v2
    have c_y0 := k_y0
    have c_y1 := k_y1
    have c_y2 := k_y2
    have c_v0 := k_v0
    have c_v1 := k_v1
    have c_v2 := k_v2
    clear k_y0 k_y1 k_y2 k_v0 k_v1 k_v2
    have HO2'' := Lib.hid (owns_heap (W' := w11) HO2'.out fun k hk => Qg4.out k (by cases hk; exact n24))
    have HP1'' := Lib.hid (owns_heap (W' := w11) HP1'.out fun k hk => Qg4.out k (by cases hk; exact n34))
    have r1 : Hid (IsRow .i64 w11 (some ⟨g1, 0, none⟩) (bm.set j (wrap64 (X + by')))) := Lib.hid (row_heap Rg1.out (by omega) fun b hb => by obtain ⟨o, ho⟩ := hb; cases ho; exact Qg4.out g1 n14)
    have r2 : Hid (IsRow .i64 w11 (some ⟨g2, 0, none⟩) bc) := Lib.hid (by obtain ⟨a', c', h, h2, -⟩ := row_of_owns HO2''.out; cases h; exact h2)
    have r3 : Hid (IsRow .i64 w11 (some ⟨g3, 0, none⟩) bm) := Lib.hid (by obtain ⟨a', c', h, h2, -⟩ := row_of_owns HP1''.out; cases h; exact h2)
    have r4 : Hid (IsRow .i64 w11 (some ⟨g4, 0, none⟩) (bc.set j (wrap64 (Y + by')))) := Lib.hid Rg4.out
    have hz11 : wz.heap.size ≤ w11.heap.size := Bg4.out.size
    have hB11 : Below w.heap.size w w11 := below_via Bg4.out hBz (by omega)
    have HR1 := Lib.hid (fun W (hb : Below w11.heap.size w11 W) => O1.out _ _ xc yc W (below_via hb hB11 (by have := hB11.size; omega)) (r1.out.below hb) (r2.out.below hb))
    have HR2 := Lib.hid (fun W (hb : Below w11.heap.size w11 W) => O2.out _ _ xc2 yc2 W (below_via hb hB11 (by have := hB11.size; omega)) (r3.out.below hb) (r4.out.below hb))
    have z_y : b5 < w11.heap.size := by omega
    have z_v : b6 < w11.heap.size := by omega
    have hz_w11 := Bg4.out.size
    try simp only [World.size_alloc, World.size_setCell] at hz_w11
    have all_c : w11.cell? ⟨w.heap.size, 0, none⟩ = some (.int .i64 seg) ∧ w11.cell? ⟨w.heap.size, 1, none⟩ = some (.slice wa lw wc) ∧ w11.cell? ⟨w.heap.size, 2, none⟩ = some (.slice ka lk kc) ∧ w11.cell? ⟨w.heap.size, 3, none⟩ = some (.slice va lv vc) ∧ w11.cell? ⟨w.heap.size, 4, none⟩ = some (.slice ca lc cc) ∧ w11.cell? ⟨w.heap.size, 5, none⟩ = some (.int .u64 laid) := by refine ⟨?_, ?_, ?_, ?_, ?_, ?_⟩ <;> (refine (Bg4.out.cell ?_).trans ?_ <;> first | (first | (with_reducible assumption) | omega | (simp only [World.size_alloc, World.size_setCell, World.size_drew, World.heap_drewN] <;> omega) | (simp <;> omega)) | (first | (with_reducible assumption) | ((try simp (disch := first | omega | (simp only [World.size_alloc, World.size_setCell, World.size_drew, World.heap_drewN] <;> omega) | fail) only [World.cell?_alloc_past, World.cell?_alloc_at, World.frozen?_alloc_past, World.frozen?_alloc_at, World.frozen?_setCell, World.cell?_drew, World.frozen?_drew]) <;> first | (with_reducible assumption) | rfl)))
    have all_z : w.heap.size < w11.heap.size := by omega
    clear c_s0 c_s1 c_s2 c_s3 c_s4 c_s5 z_s
    obtain ⟨c_s0, c_s1, c_s2, c_s3, c_s4, c_s5⟩ := all_c
    try clear all_c
    have z_s := all_z
    try clear all_z
    have hzB11 := hB11.size
    clear Rg1 Qg1 Zg1 Bg1 Rg4 Qg4 Bg4 HO1 HO2 HP1 HP2 HO2' HP1' HP2' HO2'' HP1'' r1 r2 r3 r4 O1 O2 d3 d4 HJ9 HXX HYY
    go_wp2_with fail
    refine (HR1.out _ (Below.refl _ _)).mono ?_
    rintro e w12 ⟨rfl, hb12⟩
    have hz_w12 := hb12.size
    try simp only [World.size_alloc, World.size_setCell] at hz_w12
    have all_c : w12.cell? ⟨w.heap.size, 0, none⟩ = some (.int .i64 seg) ∧ w12.cell? ⟨w.heap.size, 1, none⟩ = some (.slice wa lw wc) ∧ w12.cell? ⟨w.heap.size, 2, none⟩ = some (.slice ka lk kc) ∧ w12.cell? ⟨w.heap.size, 3, none⟩ = some (.slice va lv vc) ∧ w12.cell? ⟨w.heap.size, 4, none⟩ = some (.slice ca lc cc) ∧ w12.cell? ⟨w.heap.size, 5, none⟩ = some (.int .u64 laid) ∧ w12.cell? ⟨b5, 0, none⟩ = some (.int .i64 L) ∧ w12.cell? ⟨b5, 1, none⟩ = some (.slice (some ⟨g1, 0, none⟩) lm xc) ∧ w12.cell? ⟨b5, 2, none⟩ = some (.slice (some ⟨g2, 0, none⟩) lm yc) ∧ w12.cell? ⟨b6, 0, none⟩ = some (.int .i64 L) ∧ w12.cell? ⟨b6, 1, none⟩ = some (.slice (some ⟨g3, 0, none⟩) lm xc2) ∧ w12.cell? ⟨b6, 2, none⟩ = some (.slice (some ⟨g4, 0, none⟩) lm yc2) := by refine ⟨?_, ?_, ?_, ?_, ?_, ?_, ?_, ?_, ?_, ?_, ?_, ?_⟩ <;> (refine (hb12.cell ?_).trans ?_ <;> first | (first | (with_reducible assumption) | omega | (simp only [World.size_alloc, World.size_setCell, World.size_drew, World.heap_drewN] <;> omega) | (simp <;> omega)) | (first | (with_reducible assumption) | ((try simp (disch := first | omega | (simp only [World.size_alloc, World.size_setCell, World.size_drew, World.heap_drewN] <;> omega) | fail) only [World.cell?_alloc_past, World.cell?_alloc_at, World.frozen?_alloc_past, World.frozen?_alloc_at, World.frozen?_setCell, World.cell?_drew, World.frozen?_drew]) <;> first | (with_reducible assumption) | rfl)))
    have all_z : w.heap.size < w12.heap.size ∧ b5 < w12.heap.size ∧ b6 < w12.heap.size := by refine ⟨?_, ?_, ?_⟩ <;> (omega)
    clear c_s0 c_s1 c_s2 c_s3 c_s4 c_s5 z_s
    obtain ⟨c_s0, c_s1, c_s2, c_s3, c_s4, c_s5, c_y0, c_y1, c_y2, c_v0, c_v1, c_v2⟩ := all_c
    try clear all_c
    obtain ⟨z_s, z_y, z_v⟩ := all_z
    try clear all_z
    have h12 : Below w11.heap.size w11 w12 := hb12
    clear hb12
    go_wp2_with fail
    refine (HR2.out _ h12).mono ?_
    rintro e w13 ⟨rfl, hb13⟩
    have hz_w13 := hb13.size
    try simp only [World.size_alloc, World.size_setCell] at hz_w13
    have all_c : w13.cell? ⟨w.heap.size, 0, none⟩ = some (.int .i64 seg) ∧ w13.cell? ⟨w.heap.size, 1, none⟩ = some (.slice wa lw wc) ∧ w13.cell? ⟨w.heap.size, 2, none⟩ = some (.slice ka lk kc) ∧ w13.cell? ⟨w.heap.size, 3, none⟩ = some (.slice va lv vc) ∧ w13.cell? ⟨w.heap.size, 4, none⟩ = some (.slice ca lc cc) ∧ w13.cell? ⟨w.heap.size, 5, none⟩ = some (.int .u64 laid) ∧ w13.cell? ⟨b5, 0, none⟩ = some (.int .i64 L) ∧ w13.cell? ⟨b5, 1, none⟩ = some (.slice (some ⟨g1, 0, none⟩) lm xc) ∧ w13.cell? ⟨b5, 2, none⟩ = some (.slice (some ⟨g2, 0, none⟩) lm yc) ∧ w13.cell? ⟨b6, 0, none⟩ = some (.int .i64 L) ∧ w13.cell? ⟨b6, 1, none⟩ = some (.slice (some ⟨g3, 0, none⟩) lm xc2) ∧ w13.cell? ⟨b6, 2, none⟩ = some (.slice (some ⟨g4, 0, none⟩) lm yc2) := by refine ⟨?_, ?_, ?_, ?_, ?_, ?_, ?_, ?_, ?_, ?_, ?_, ?_⟩ <;> (refine (hb13.cell ?_).trans ?_ <;> first | (first | (with_reducible assumption) | omega | (simp only [World.size_alloc, World.size_setCell, World.size_drew, World.heap_drewN] <;> omega) | (simp <;> omega)) | (first | (with_reducible assumption) | ((try simp (disch := first | omega | (simp only [World.size_alloc, World.size_setCell, World.size_drew, World.heap_drewN] <;> omega) | fail) only [World.cell?_alloc_past, World.cell?_alloc_at, World.frozen?_alloc_past, World.frozen?_alloc_at, World.frozen?_setCell, World.cell?_drew, World.frozen?_drew]) <;> first | (with_reducible assumption) | rfl)))
    have all_z : w.heap.size < w13.heap.size ∧ b5 < w13.heap.size ∧ b6 < w13.heap.size := by refine ⟨?_, ?_, ?_⟩ <;> (omega)
    clear c_s0 c_s1 c_s2 c_s3 c_s4 c_s5 c_y0 c_y1 c_y2 c_v0 c_v1 c_v2 z_s z_y z_v
    obtain ⟨c_s0, c_s1, c_s2, c_s3, c_s4, c_s5, c_y0, c_y1, c_y2, c_v0, c_v1, c_v2⟩ := all_c
    try clear all_c
    obtain ⟨z_s, z_y, z_v⟩ := all_z
    try clear all_z
    have h13 : Below w11.heap.size w11 w13 := below_via hb13 h12 (by omega)
    go_wp2
    go_ret
    exact ⟨by simp, below_via h13 hB11 (by omega)⟩

def i64R (x : Int) : Prop := -9223372036854775808 ≤ x ∧ x < 9223372036854775808
theorem wrap_add {x d : Int} (hx : i64R x) (hd : i64R d) : wrap64 (x + d) = x ↔ d = 0 := by
  unfold i64R at *
  unfold wrap64
  omega
theorem list_set_same {l : List Int} {j : Nat} {v : Int} (hj : j < l.length) : l.set j v = l ↔ v = l.getD j 0 := by
  constructor
  · intro h
    have := set_getD (xs := l) (j := j) (k := j) (v := v) hj
    rw [h, if_pos rfl] at this
    exact this.symm
  · rintro rfl
    refine list_ext_getD (by simp) fun k hk => ?_
    rw [set_getD (by simpa using hk)]
    split
    · rename_i e; rw [e]
    · rfl
theorem trH_key {c : SlC} (h : ∀ x ∈ c.ks, i64R x) (M : Nat) : ∀ d n, i64R (trH c M d n).1 := by
  have h0 : i64R 0 := by unfold i64R; omega
  have hk : ∀ i, i64R (c.ks.getD i 0) := fun i => by
    rw [List.getD_eq_getElem?_getD]
    cases e : c.ks[i]? with
    | none => exact h0
    | some x => exact h x (List.mem_of_getElem? e)
  intro d
  induction d with
  | zero =>
    intro n
    rw [trH, leafT]
    split
    · exact h0
    · rw [List.getD_eq_getElem?_getD, prs, List.getElem?_map]
      cases e : (plsW c.ws ((n - M) * c.seg.toNat) ((n - M + 1) * c.seg.toNat))[(List.map (fun i => (c.ks.getD i 0, c.vs.getD i 0)) (plsW c.ws ((n - M) * c.seg.toNat) ((n - M + 1) * c.seg.toNat))).length - 1]? with
      | none => exact h0
      | some i => exact hk i
  | succ d ih =>
    intro n
    rw [trH, abvT, abM]
    dsimp only
    split
    · exact ih _
    · exact ih _
theorem bldM_key {c : SlC} (h : ∀ x ∈ c.ks, i64R x) (j : Nat) : i64R ((bldM c).getD j 0) := by
  have h0 : i64R 0 := by unfold i64R; omega
  rw [List.getD_eq_getElem?_getD]
  cases e : (bldM c)[j]? with
  | none => exact h0
  | some x =>
    have hx := List.mem_of_getElem? e
    unfold bldM at hx
    split at hx
    · obtain ⟨n, -, rfl⟩ := List.mem_map.1 hx
      exact trH_key h _ _ _
    · cases hx
theorem bldC_key (c : SlC) (j : Nat) : i64R ((bldC c).getD j 0) := by
  have h0 : i64R 0 := by unfold i64R; omega
  rw [List.getD_eq_getElem?_getD]
  cases e : (bldC c)[j]? with
  | none => exact h0
  | some x =>
    have hx := List.mem_of_getElem? e
    unfold bldC at hx
    split at hx
    · rename_i hb
      obtain ⟨h1, h2⟩ := bldE_seek hb
      obtain ⟨S, D, M, hS, hS2, hS4, hS64, hcm, hMD, hDM, hD13, hSM, -⟩ := bld_facts (seekE_may h1) h2
      obtain ⟨n, -, rfl⟩ := List.mem_map.1 hx
      have := trN_bd c c.cs.length.log2 n
      rw [hcm, hMD, hS2, hDM] at this
      unfold i64R
      show _ ≤ (trN c c.cs.length.log2 n).2 ∧ (trN c c.cs.length.log2 n).2 < _
      rw [hcm, hMD]
      omega
    · cases hx
theorem IndexAnother_walk (w : World) (sl : SlC) (al : SlA) (hin : SlIn w sl al) (hks : ∀ x ∈ sl.ks, i64R x) (a : Int) (d : Int) (hd : i64R d) :
    Calls Try.prog 7 #[slV sl al, .int .i64 a, .int .i64 d] w fun e w' => e = .returned (.bool true) ∧ Below w.heap.size w w' := by
  have GR := Lib.hid (fun w' => Great04_ok sl.seg al.wa al.ka al.va al.ca al.wc al.kc al.vc al.cc sl.ws.length sl.ks.length sl.vs.length sl.cs.length sl.laid 600 w')
  by_cases hg : gr4 600 sl.ks.length sl.vs.length sl.ws.length sl.cs.length = true
  · rw [hg] at GR
    exact Another_great _ _ _ _ _ _ _ _ _ _ _ _ _ _ a d w GR
  · have hg0 : gr4 600 sl.ks.length sl.vs.length sl.ws.length sl.cs.length = false := by simpa using hg
    rw [hg0] at GR
    simp only [gr4, Bool.or_eq_false_iff, decide_eq_false_iff_not] at hg0
    have BI := Lib.hid (fun W (hb : Below w.heap.size w W) => BuildIx_ok sl al (by omega) (by omega) W (hin.below hb))
    by_cases h0 : bldE sl = 0
    · rw [h0] at BI
      obtain ⟨S, D, hS, hS2, hS4, hS64, hcs, hD, -, -, hL, hlm, hlc, -⟩ := bld_vals h0
      have hbl := bld_len sl
      have hl2 : (bldC sl).length = (bldM sl).length := by rw [hlm, hlc]
      by_cases ha : a < 0 ∨ ((bldM sl).length : Int) ≤ a
      · exact Another_out _ _ _ _ _ _ _ _ _ _ _ _ _ _ a d (bldL sl) _ _ _ rfl hl2 hbl.1 ha w GR BI
      · obtain ⟨j, rfl⟩ : ∃ j : Nat, a = j := ⟨a.toNat, by omega⟩
        have hj : j < (bldM sl).length := by omega
        refine Another_in _ _ _ _ _ _ _ _ _ _ _ _ _ _ d (bldL sl) _ j _ _ rfl hl2 hbl.1 hj w GR BI (Lib.hid fun xa xb xc xd W h1 h2 => ?_) (Lib.hid fun xa xb xc xd W hb h1 h2 => ?_) (Lib.hid fun xa xb xc xd W hb h1 h2 => ?_)
        · have := Twin_ix (bldL sl) xa xb xc xd (bldM sl) (bldC sl) W h1 h2 hbl.1 hbl.2
          rw [hl2] at this
          exact this
        · have := OfIx_ok (bldL sl) xa xb xc xd _ (bldC sl) sl al (by omega) (by omega) W (hin.below hb) h1 h2 (by rw [List.length_set]; exact hbl.1) hbl.2
          rw [List.length_set, hl2, h0] at this
          rw [show ofB (bldL sl) ((bldM sl).set j (wrap64 ((bldM sl).getD j 0 + d))) (bldC sl) sl = (d == 0) by
            rw [Bool.eq_iff_iff]
            simp only [ofB, ixEq, h0, Bool.and_eq_true, decide_eq_true_eq, true_and, and_true, beq_iff_eq]
            rw [list_set_same hj]
            exact wrap_add (bldM_key hks j) hd] at this
          exact this
        · have := OfIx_ok (bldL sl) xa xb xc xd (bldM sl) _ sl al (by omega) (by omega) W (hin.below hb) h1 h2 hbl.1 (by rw [List.length_set]; exact hbl.2)
          rw [List.length_set, hl2, h0] at this
          rw [show ofB (bldL sl) (bldM sl) ((bldC sl).set j (wrap64 ((bldC sl).getD j 0 + d))) sl = (d == 0) by
            rw [Bool.eq_iff_iff]
            simp only [ofB, ixEq, h0, Bool.and_eq_true, decide_eq_true_eq, true_and, and_true, beq_iff_eq]
            rw [list_set_same (by omega)]
            exact wrap_add (bldC_key sl j) hd] at this
          exact this
    · exact Another_no _ _ _ _ _ _ _ _ _ _ _ _ _ _ a d _ _ _ _ h0 (if_neg h0) w GR BI
end Go.Proofs.Ytelckhfmchnpnaa
