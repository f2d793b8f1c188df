/- The walk of mend.Window where all may be. -/
import Derived.Test.YtbmibaafkgleeaaUndK
import Derived.Test.YtbmibaafkgleeaaBltIx
import Derived.Test.YtbmibaafkgleeaaIdxTw
import Derived.Test.YtbmibaafkgleeaaIdxCk
import Derived.Test.YtbmibaafkgleeaaPrsAll
namespace Go.Proofs.Ytbmibaafkgleeaa
open Go.RowKit Go.Shelf
set_option linter.unusedVariables false
set_option linter.unusedSimpArgs false

theorem gH_next {lf t0 : Nat → Int × Int} {F lo s n : Nat} (h : lo ≤ s) : gH lf t0 F lo (s + 1) 0 n = if n = F + s then lf s else gH lf t0 F lo s 0 n := by
  obtain ⟨i, rfl⟩ := Nat.exists_eq_add_of_le h
  exact gH_leaf
theorem hit_up {F lo hi h : Nat} (hn : ∀ k, ¬ (k ≠ 0 ∧ hitB F lo hi (h + 1) k = true)) : ∀ j k, ¬ (k ≠ 0 ∧ hitB F lo hi (h + 1 + j) k = true) := by
  intro j
  induction j with
  | zero => exact hn
  | succ j ih =>
    rintro k ⟨h0, h1⟩
    obtain ⟨m, hm, e⟩ := hit_succ.1 (show hitB F lo hi (h + 1 + j + 1) k = true from h1)
    exact ih m ⟨by intro e2; subst e2; exact h0 (by rw [← e]), hm⟩
theorem gH_end {lf t0 : Nat → Int × Int} {F lo hi h gk D : Nat} (hn : ∀ k, ¬ (k ≠ 0 ∧ hitB F lo hi (h + 1) k = true)) (hD : h + gk = D) {n : Nat} (h0 : n ≠ 0) : gH lf t0 F lo hi D n = gH lf t0 F lo hi h n := by
  subst hD
  induction gk with
  | zero => rfl
  | succ j ih =>
    rw [show h + (j + 1) = h + j + 1 by omega, gH, if_neg (fun e => hit_up hn j n ⟨h0, by rw [show h + 1 + j = h + j + 1 by omega]; exact e⟩)]
    exact ih
theorem strike_nat (left : Lit → Bool) (j m : Nat) : (left (.int .i64 (j : Int)) && !(Lit.int .i64 (j : Int)).sameKey (.int .i64 (m : Int))) = (left (.int .i64 (j : Int)) && !(j == m)) := by
  have : (Lit.int .i64 (j : Int)).sameKey (.int .i64 (m : Int)) = (j == m) := by
    rw [Bool.eq_iff_iff]
    simp [Lit.sameKey]
    omega
  rw [this]
theorem own_some {w : World} {B n c s : Nat} {e : TypeId} {ao : Option Addr} {xs : List Value} (h : w.ownsRow B e s (.slice ao n c) n xs) (hn : 0 < n) : ∃ g, ao = some ⟨g, 0, none⟩ ∧ B ≤ g ∧ g < w.heap.size := by
  obtain ⟨_, ⟨h1, h2⟩ | ⟨g, cap, cur, hv, hg, hh, -⟩⟩ := h
  · omega
  · cases hv
    exact ⟨g, rfl, hg, (Array.getElem?_eq_some_iff.1 hh).1⟩

set_option maxRecDepth 100000 in
set_option maxHeartbeats 8000000 in
theorem Window_core (S D L N F lo hi : Nat) (ma ica wa ka va ca : Option Addr) (mc icc wc kc vc cc lw lk lv : Nat) (laid : Int) (bL : Int) (bm bc : List Int) (f0 g0 : Nat → Int) (pl : Nat → List (Int × Int)) (w : World)
    (hS : S ≤ 64) (hL : L = D + 1) (hD : D ≤ 13) (hF : 2 ^ D = F) (hN : N + 1 = 2 ^ L) (hNF : N + 1 = 2 * F) (hF8 : F ≤ 8192) (hF0 : 0 < F) (hSF : S * F ≤ 65536) (h1 : lo ≤ hi) (h2 : hi ≤ F)
    (BI : Hid (∀ W, Below w.heap.size w W → Calls Try.prog 23 #[.agg #[.int .i64 S, .slice wa lw wc, .slice ka lk kc, .slice va lv vc, .slice ca F cc, .int .u64 laid]] W (FreshIx2 W bL bm bc (.int .i64 0))))
    (CK : Hid (∀ W, Below w.heap.size w W → Calls Try.prog 38 #[ixV L ma N mc ica N icc] W (AnsB W (.int .i64 0))))
    (LF : Hid (∀ W, Calls Try.prog 39 #[.int .i64 L, .int .i64 0] W fun e w' => e = .returned (.tuple #[.int .i64 F, .int .i64 0]) ∧ W = w'))
    (TW : Hid (∀ W, Below w.heap.size w W → Calls Try.prog 40 #[ixV L ma N mc ica N icc] W (FreshIx W L ((lay L 1).map f0) ((lay L 1).map g0))))
    (PR : Hid (∀ s, s < F → ∀ W, Below w.heap.size w W → Calls Try.prog 26 #[.agg #[.int .i64 S, .slice wa lw wc, .slice ka lk kc, .slice va lv vc, .slice ca F cc, .int .u64 laid], .int .i64 ((s * S : Nat) : Int), .int .i64 (((s + 1) * S : Nat) : Int)] W (FreshPr2 W (pl s) (.int .i64 0))))
    (PL : Hid (∀ s, (pl s).length ≤ 64)) :
    Calls Try.prog 15 #[ixV L ma N mc ica N icc, .agg #[.int .i64 S, .slice wa lw wc, .slice ka lk kc, .slice va lv vc, .slice ca F cc, .int .u64 laid], .int .i64 lo, .int .i64 hi] w
      (FreshIx2 w L ((lay L 1).map fun n => (gH (fun s => tellT (pl s)) (fun n => (f0 n, g0 n)) F lo hi D n).1) ((lay L 1).map fun n => (gH (fun s => tellT (pl s)) (fun n => (f0 n, g0 n)) F lo hi D n).2) (.int .i64 0)) := by
  have hlay : ∀ f : Nat → Int, ((lay L 1).map f).length = N := fun f => by rw [List.length_map, lay_len 1 (by omega)]; omega
  have HLAY := Lib.hid hlay
  have HFP := Lib.hid hF
  have HNL := Lib.hid hN
  have HLD := Lib.hid hL
  obtain ⟨T0, hT0⟩ : ∃ T0, T0 = fun n : Nat => (f0 n, g0 n) := ⟨_, rfl⟩
  rw [← hT0]
  have HT0 := Lib.hid hT0
  have hL1 : 1 ≤ L := by omega
  have hL14 : L ≤ 14 := by omega
  have r1 : ((F : Int) != F) = false := by simp
  have r2 : decide ((lo : Int) < 0) = false := by simp
  have r3 : decide ((lo : Int) > hi) = false := by simp; omega
  have r4 : decide ((hi : Int) > F) = false := by simp; omega
  clear hlay hF hN hT0 hL
  go_enter Try.func15, Try.ntmps15
  go_wp2
  refine wp_scope_loop 0 (fun _ _ _ => False) rfl (fun _ _ _ h => h.elim) ?_
  intro H hH hp
  clear hH hp
  go_wp2_with fail
  refine (BI.out _ (by (repeat (first | with_reducible (first | exact Below.refl _ _ | assumption | exact Hid.out (by assumption) | refine Below.alloc ?_ ?_ _ | refine Below.setCell ?_ ?_ _ | refine below_drewN ?_ _ | refine Below.drew ?_ | refine below_via (by assumption) ?_ ?_) | (first | (with_reducible assumption) | omega | (simp only [szW] <;> omega) | (simp <;> omega)))))).mono ?_
  rintro e w1 ⟨v, u, rfl, o1, o2, hb1⟩
  have hz_w1 := hb1.size
  try simp only [World.size_alloc, World.size_setCell] at hz_w1
  have all_c : w1.cell? ⟨w.heap.size, 0, none⟩ = some (.int .i64 L) ∧ w1.cell? ⟨w.heap.size, 1, none⟩ = some (.slice ma N mc) ∧ w1.cell? ⟨w.heap.size, 2, none⟩ = some (.slice ica N icc) ∧ w1.cell? ⟨w.heap.size + 1, 0, none⟩ = some (.int .i64 S) ∧ w1.cell? ⟨w.heap.size + 1, 1, none⟩ = some (.slice wa lw wc) ∧ w1.cell? ⟨w.heap.size + 1, 2, none⟩ = some (.slice ka lk kc) ∧ w1.cell? ⟨w.heap.size + 1, 3, none⟩ = some (.slice va lv vc) ∧ w1.cell? ⟨w.heap.size + 1, 4, none⟩ = some (.slice ca F cc) ∧ w1.cell? ⟨w.heap.size + 1, 5, none⟩ = some (.int .u64 laid) ∧ w1.cell? ⟨w.heap.size + 1 + 1, 0, none⟩ = some (.int .i64 0) ∧ w1.cell? ⟨w.heap.size + 1 + 1, 1, none⟩ = some (.slice none 0 0) ∧ w1.cell? ⟨w.heap.size + 1 + 1, 2, none⟩ = some (.slice none 0 0) := by refine ⟨?_, ?_, ?_, ?_, ?_, ?_, ?_, ?_, ?_, ?_, ?_, ?_⟩ <;> (refine (hb1.cell ?_).trans ?_ <;> first | (first | (with_reducible assumption) | omega | (simp only [szW] <;> omega) | (simp <;> omega)) | (first | (with_reducible assumption) | ((try simp (disch := first | omega | (simp only [szW] <;> omega) | fail) only [ceW]) <;> first | (with_reducible assumption) | rfl)))
  have all_f : w1.frozen? ⟨w.heap.size + 1 + 1, 0, none⟩ = false ∧ w1.frozen? ⟨w.heap.size + 1 + 1, 1, none⟩ = false ∧ w1.frozen? ⟨w.heap.size + 1 + 1, 2, none⟩ = false := by refine ⟨?_, ?_, ?_⟩ <;> (refine (hb1.frozen ?_).trans ?_ <;> first | (first | (with_reducible assumption) | omega | (simp only [szW] <;> omega) | (simp <;> omega)) | (first | (with_reducible assumption) | ((try simp (disch := first | omega | (simp only [szW] <;> omega) | fail) only [ceW]) <;> first | (with_reducible assumption) | rfl)))
  have all_z : w.heap.size < w1.heap.size ∧ w.heap.size + 1 < w1.heap.size ∧ w.heap.size + 1 + 1 < w1.heap.size := by refine ⟨?_, ?_, ?_⟩ <;> (omega)
  obtain ⟨c_x0, c_x1, c_x2, c_s0, c_s1, c_s2, c_s3, c_s4, c_s5, c_r0, c_r1, c_r2⟩ := all_c
  try clear all_c
  obtain ⟨f_r0, f_r1, f_r2⟩ := all_f
  try clear all_f
  obtain ⟨z_x, z_s, z_r⟩ := all_z
  try clear all_z
  have hB1 : Below w.heap.size w w1 := by (repeat (first | with_reducible (first | exact Below.refl _ _ | assumption | exact Hid.out (by assumption) | refine Below.alloc ?_ ?_ _ | refine Below.setCell ?_ ?_ _ | refine below_drewN ?_ _ | refine Below.drew ?_ | refine below_via (by assumption) ?_ ?_) | (first | (with_reducible assumption) | omega | (simp only [szW] <;> omega) | (simp <;> omega))))
  obtain ⟨va1, vc1, rfl, -⟩ := owns_news o1
  obtain ⟨ua1, uc1, rfl, -⟩ := owns_news o2
  clear o1 o2 hb1
  go_wp2_with fail
  refine (CK.out _ (by (repeat (first | with_reducible (first | exact Below.refl _ _ | assumption | exact Hid.out (by assumption) | refine Below.alloc ?_ ?_ _ | refine Below.setCell ?_ ?_ _ | refine below_drewN ?_ _ | refine Below.drew ?_ | refine below_via (by assumption) ?_ ?_) | (first | (with_reducible assumption) | omega | (simp only [szW] <;> omega) | (simp <;> omega)))))).mono ?_
  rintro e w2 ⟨rfl, hb2⟩
  have hz_w2 := hb2.size
  try simp only [World.size_alloc, World.size_setCell] at hz_w2
  have all_c : w2.cell? ⟨w.heap.size, 0, none⟩ = some (.int .i64 L) ∧ w2.cell? ⟨w.heap.size, 1, none⟩ = some (.slice ma N mc) ∧ w2.cell? ⟨w.heap.size, 2, none⟩ = some (.slice ica N icc) ∧ w2.cell? ⟨w.heap.size + 1, 0, none⟩ = some (.int .i64 S) ∧ w2.cell? ⟨w.heap.size + 1, 1, none⟩ = some (.slice wa lw wc) ∧ w2.cell? ⟨w.heap.size + 1, 2, none⟩ = some (.slice ka lk kc) ∧ w2.cell? ⟨w.heap.size + 1, 3, none⟩ = some (.slice va lv vc) ∧ w2.cell? ⟨w.heap.size + 1, 4, none⟩ = some (.slice ca F cc) ∧ w2.cell? ⟨w.heap.size + 1, 5, none⟩ = some (.int .u64 laid) ∧ w2.cell? ⟨w.heap.size + 1 + 1, 0, none⟩ = some (.int .i64 0) ∧ w2.cell? ⟨w.heap.size + 1 + 1, 1, none⟩ = some (.slice none 0 0) ∧ w2.cell? ⟨w.heap.size + 1 + 1, 2, none⟩ = some (.slice none 0 0) := by refine ⟨?_, ?_, ?_, ?_, ?_, ?_, ?_, ?_, ?_, ?_, ?_, ?_⟩ <;> (refine (hb2.cell ?_).trans ?_ <;> first | (first | (with_reducible assumption) | omega | (simp only [szW] <;> omega) | (simp <;> omega)) | (first | (with_reducible assumption) | ((try simp (disch := first | omega | (simp only [szW] <;> omega) | fail) only [ceW]) <;> first | (with_reducible assumption) | rfl)))
  have all_f : w2.frozen? ⟨w.heap.size + 1 + 1, 0, none⟩ = false ∧ w2.frozen? ⟨w.heap.size + 1 + 1, 1, none⟩ = false ∧ w2.frozen? ⟨w.heap.size + 1 + 1, 2, none⟩ = false := by refine ⟨?_, ?_, ?_⟩ <;> (refine (hb2.frozen ?_).trans ?_ <;> first | (first | (with_reducible assumption) | omega | (simp only [szW] <;> omega) | (simp <;> omega)) | (first | (with_reducible assumption) | ((try simp (disch := first | omega | (simp only [szW] <;> omega) | fail) only [ceW]) <;> first | (with_reducible assumption) | rfl)))
  have all_z : w.heap.size < w2.heap.size ∧ w.heap.size + 1 < w2.heap.size ∧ w.heap.size + 1 + 1 < w2.heap.size := by refine ⟨?_, ?_, ?_⟩ <;> (omega)
  clear c_x0 c_x1 c_x2 c_s0 c_s1 c_s2 c_s3 c_s4 c_s5 c_r0 c_r1 c_r2 f_r0 f_r1 f_r2 z_x z_s z_r
  obtain ⟨c_x0, c_x1, c_x2, c_s0, c_s1, c_s2, c_s3, c_s4, c_s5, c_r0, c_r1, c_r2⟩ := all_c
  try clear all_c
  obtain ⟨f_r0, f_r1, f_r2⟩ := all_f
  try clear all_f
  obtain ⟨z_x, z_s, z_r⟩ := all_z
  try clear all_z
  have hB2 : Below w.heap.size w w2 := by (repeat (first | with_reducible (first | exact Below.refl _ _ | assumption | exact Hid.out (by assumption) | refine Below.alloc ?_ ?_ _ | refine Below.setCell ?_ ?_ _ | refine below_drewN ?_ _ | refine Below.drew ?_ | refine below_via (by assumption) ?_ ?_) | (first | (with_reducible assumption) | omega | (simp only [szW] <;> omega) | (simp <;> omega))))
  clear hb2
  go_wp2_with fail
  refine (LF.out _).mono ?_
  rintro e w' ⟨rfl, rfl⟩
  go_wp2_with fail
  refine (TW.out _ hB2).mono ?_
  rintro e w3 ⟨v, u, rfl, o1, o2, hb3⟩
  have hz_w3 := hb3.size
  try simp only [World.size_alloc, World.size_setCell] at hz_w3
  have all_c : w3.cell? ⟨w.heap.size, 0, none⟩ = some (.int .i64 L) ∧ w3.cell? ⟨w.heap.size, 1, none⟩ = some (.slice ma N mc) ∧ w3.cell? ⟨w.heap.size, 2, none⟩ = some (.slice ica N icc) ∧ w3.cell? ⟨w.heap.size + 1, 0, none⟩ = some (.int .i64 S) ∧ w3.cell? ⟨w.heap.size + 1, 1, none⟩ = some (.slice wa lw wc) ∧ w3.cell? ⟨w.heap.size + 1, 2, none⟩ = some (.slice ka lk kc) ∧ w3.cell? ⟨w.heap.size + 1, 3, none⟩ = some (.slice va lv vc) ∧ w3.cell? ⟨w.heap.size + 1, 4, none⟩ = some (.slice ca F cc) ∧ w3.cell? ⟨w.heap.size + 1, 5, none⟩ = some (.int .u64 laid) ∧ w3.cell? ⟨w.heap.size + 1 + 1, 0, none⟩ = some (.int .i64 0) ∧ w3.cell? ⟨w.heap.size + 1 + 1, 1, none⟩ = some (.slice none 0 0) ∧ w3.cell? ⟨w.heap.size + 1 + 1, 2, none⟩ = some (.slice none 0 0) := by refine ⟨?_, ?_, ?_, ?_, ?_, ?_, ?_, ?_, ?_, ?_, ?_, ?_⟩ <;> (refine (hb3.cell ?_).trans ?_ <;> first | (first | (with_reducible assumption) | omega | (simp only [szW] <;> omega) | (simp <;> omega)) | (first | (with_reducible assumption) | ((try simp (disch := first | omega | (simp only [szW] <;> omega) | fail) only [ceW]) <;> first | (with_reducible assumption) | rfl)))
  have all_f : w3.frozen? ⟨w.heap.size + 1 + 1, 0, none⟩ = false ∧ w3.frozen? ⟨w.heap.size + 1 + 1, 1, none⟩ = false ∧ w3.frozen? ⟨w.heap.size + 1 + 1, 2, none⟩ = false := by refine ⟨?_, ?_, ?_⟩ <;> (refine (hb3.frozen ?_).trans ?_ <;> first | (first | (with_reducible assumption) | omega | (simp only [szW] <;> omega) | (simp <;> omega)) | (first | (with_reducible assumption) | ((try simp (disch := first | omega | (simp only [szW] <;> omega) | fail) only [ceW]) <;> first | (with_reducible assumption) | rfl)))
  have all_z : w.heap.size < w3.heap.size ∧ w.heap.size + 1 < w3.heap.size ∧ w.heap.size + 1 + 1 < w3.heap.size := by refine ⟨?_, ?_, ?_⟩ <;> (omega)
  clear c_x0 c_x1 c_x2 c_s0 c_s1 c_s2 c_s3 c_s4 c_s5 c_r0 c_r1 c_r2 f_r0 f_r1 f_r2 z_x z_s z_r
  obtain ⟨c_x0, c_x1, c_x2, c_s0, c_s1, c_s2, c_s3, c_s4, c_s5, c_r0, c_r1, c_r2⟩ := all_c
  try clear all_c
  obtain ⟨f_r0, f_r1, f_r2⟩ := all_f
  try clear all_f
  obtain ⟨z_x, z_s, z_r⟩ := all_z
  try clear all_z
  have hB3 : Below w.heap.size w w3 := by (repeat (first | with_reducible (first | exact Below.refl _ _ | assumption | exact Hid.out (by assumption) | refine Below.alloc ?_ ?_ _ | refine Below.setCell ?_ ?_ _ | refine below_drewN ?_ _ | refine Below.drew ?_ | refine below_via (by assumption) ?_ ?_) | (first | (with_reducible assumption) | omega | (simp only [szW] <;> omega) | (simp <;> omega))))
  rw [HLAY.out] at o1 o2
  obtain ⟨ao1, k1, rfl, -⟩ := owns_news o1
  obtain ⟨ao2, k2, rfl, -⟩ := owns_news o2
  obtain ⟨g1, rfl, hg1, hg1'⟩ := own_some o1 (by omega)
  obtain ⟨g2, rfl, hg2, hg2'⟩ := own_some o2 (by omega)
  have n12 : g1 ≠ g2 := by
    rcases owns_apart o1 o2 (by decide) with h | h
    · cases h
    · intro e; exact h (by rw [e]; rfl)
  have hz2 := hb3.size
  have hzw2 := hB2.size
  have O1 := Lib.hid o1
  have O2 := Lib.hid o2
  clear o1 o2 hb3 BI CK LF TW
  have hmm := @run_makeMap Try.prog
  go_wp2
  clear hmm
  have hal : Below w3.heap.size w3 ((w3.alloc (.cells #[.int .i64 L, .slice (some ⟨g1, 0, none⟩) N k1, .slice (some ⟨g2, 0, none⟩) N k2] 78)).alloc (.map #[] 0)) := ((Below.refl _ _).alloc (Nat.le_refl _) _).alloc (by simp) _
  have hU : UndS w2.heap.size ((w3.alloc (.cells #[.int .i64 L, .slice (some ⟨g1, 0, none⟩) N k1, .slice (some ⟨g2, 0, none⟩) N k2] 78)).alloc (.map #[] 0)) w3.heap.size g1 g2 N k1 k2 L f0 g0 := ⟨by ((try simp (disch := first | omega | (simp only [szW] <;> omega) | fail) only [ceW]) <;> rfl), by ((try simp (disch := first | omega | (simp only [szW] <;> omega) | fail) only [ceW]) <;> rfl), by ((try simp (disch := first | omega | (simp only [szW] <;> omega) | fail) only [ceW]) <;> rfl), owns_below O1.out hal, owns_below O2.out hal, by omega, by omega, n12⟩
  have hM : OwnM ((w3.alloc (.cells #[.int .i64 L, .slice (some ⟨g1, 0, none⟩) N k1, .slice (some ⟨g2, 0, none⟩) N k2] 78)).alloc (.map #[] 0)) (w3.heap.size + 1) 0 (.map []) := by
    have := World.ownsMap_made (H := Unit) (w3.alloc (.cells #[.int .i64 L, .slice (some ⟨g1, 0, none⟩) N k1, .slice (some ⟨g2, 0, none⟩) N k2] 78)) Try.prog 3 (plainElem Try.prog 3)
    rw [World.size_alloc] at this
    exact this
  have hzL : ((w3.alloc (.cells #[.int .i64 L, .slice (some ⟨g1, 0, none⟩) N k1, .slice (some ⟨g2, 0, none⟩) N k2] 78)).alloc (.map #[] 0)).heap.size = w3.heap.size + 2 := by simp
  generalize ((w3.alloc (.cells #[.int .i64 L, .slice (some ⟨g1, 0, none⟩) N k1, .slice (some ⟨g2, 0, none⟩) N k2] 78)).alloc (.map #[] 0)) = wL at *
  have hz_wL := hal.size
  try simp only [World.size_alloc, World.size_setCell] at hz_wL
  have all_c : wL.cell? ⟨w.heap.size, 0, none⟩ = some (.int .i64 L) ∧ wL.cell? ⟨w.heap.size, 1, none⟩ = some (.slice ma N mc) ∧ wL.cell? ⟨w.heap.size, 2, none⟩ = some (.slice ica N icc) ∧ wL.cell? ⟨w.heap.size + 1, 0, none⟩ = some (.int .i64 S) ∧ wL.cell? ⟨w.heap.size + 1, 1, none⟩ = some (.slice wa lw wc) ∧ wL.cell? ⟨w.heap.size + 1, 2, none⟩ = some (.slice ka lk kc) ∧ wL.cell? ⟨w.heap.size + 1, 3, none⟩ = some (.slice va lv vc) ∧ wL.cell? ⟨w.heap.size + 1, 4, none⟩ = some (.slice ca F cc) ∧ wL.cell? ⟨w.heap.size + 1, 5, none⟩ = some (.int .u64 laid) ∧ wL.cell? ⟨w.heap.size + 1 + 1, 0, none⟩ = some (.int .i64 0) ∧ wL.cell? ⟨w.heap.size + 1 + 1, 1, none⟩ = some (.slice none 0 0) ∧ wL.cell? ⟨w.heap.size + 1 + 1, 2, none⟩ = some (.slice none 0 0) := by refine ⟨?_, ?_, ?_, ?_, ?_, ?_, ?_, ?_, ?_, ?_, ?_, ?_⟩ <;> (refine (hal.cell ?_).trans ?_ <;> first | (first | (with_reducible assumption) | omega | (simp only [szW] <;> omega) | (simp <;> omega)) | (first | (with_reducible assumption) | ((try simp (disch := first | omega | (simp only [szW] <;> omega) | fail) only [ceW]) <;> first | (with_reducible assumption) | rfl)))
  have all_f : wL.frozen? ⟨w.heap.size + 1 + 1, 0, none⟩ = false ∧ wL.frozen? ⟨w.heap.size + 1 + 1, 1, none⟩ = false ∧ wL.frozen? ⟨w.heap.size + 1 + 1, 2, none⟩ = false := by refine ⟨?_, ?_, ?_⟩ <;> (refine (hal.frozen ?_).trans ?_ <;> first | (first | (with_reducible assumption) | omega | (simp only [szW] <;> omega) | (simp <;> omega)) | (first | (with_reducible assumption) | ((try simp (disch := first | omega | (simp only [szW] <;> omega) | fail) only [ceW]) <;> first | (with_reducible assumption) | rfl)))
  have all_z : w.heap.size < wL.heap.size ∧ w.heap.size + 1 < wL.heap.size ∧ w.heap.size + 1 + 1 < wL.heap.size := by refine ⟨?_, ?_, ?_⟩ <;> (omega)
  clear c_x0 c_x1 c_x2 c_s0 c_s1 c_s2 c_s3 c_s4 c_s5 c_r0 c_r1 c_r2 f_r0 f_r1 f_r2 z_x z_s z_r
  obtain ⟨c_x0, c_x1, c_x2, c_s0, c_s1, c_s2, c_s3, c_s4, c_s5, c_r0, c_r1, c_r2⟩ := all_c
  try clear all_c
  obtain ⟨f_r0, f_r1, f_r2⟩ := all_f
  try clear all_f
  obtain ⟨z_x, z_s, z_r⟩ := all_z
  try clear all_z
  have HO3 := Lib.hid hB3
  obtain ⟨M0, hM0⟩ : ∃ M0, w3.heap.size + 1 = M0 := ⟨_, rfl⟩
  rw [hM0] at hM ⊢
  obtain ⟨U, hUU⟩ : ∃ U, w3.heap.size = U := ⟨_, rfl⟩
  rw [hUU] at hU hM0 ⊢
  have hBU : w2.heap.size ≤ U := by omega
  have hgU1 : g1 < U := by omega
  have hgU2 : g2 < U := by omega
  have hw2 : w.heap.size + 1 + 1 < w2.heap.size := by omega
  have HBL : Hid (Below w.heap.size w wL) := Lib.hid (below_via hal hB3 (by omega))
  have HUs := Lib.hid hU
  have HMs := Lib.hid hM
  have HZ : Hid (M0 = U + 1 ∧ U < wL.heap.size ∧ M0 < wL.heap.size) := Lib.hid ⟨by omega, by omega, by omega⟩
  have hMU : U < M0 := by omega
  clear hal hU hM hzL hM0 hUU hg1' hg2' O1 O2 hB1 hB2 hB3 hz2 hzw2 hz_w1 hz_w2 hz_w3 hz_wL
  clear HLAY
  go_loopg [16] (hi - lo) (fun gk sv wr => ∃ s : Nat, s + gk = hi ∧ lo ≤ s ∧ sv = .int .i64 s ∧ Hid (Tn (fun q => q = g1 ∨ q = g2 ∨ q = M0) wL wr) ∧ Hid (UndS w2.heap.size wr U g1 g2 N k1 k2 L (fun n => (gH (fun s => tellT (pl s)) T0 F lo s 0 n).1) (fun n => (gH (fun s => tellT (pl s)) T0 F lo s 0 n).2)) ∧ ∃ D, Hid (OwnM wr M0 s D) ∧ Hid (KeysD D fun k => hitB F lo s 1 k = true))
  case atStart =>
    refine ⟨lo, by omega, Nat.le_refl _, rfl, Lib.hid (Tn.refl _ _), Lib.hid ?_, _, Lib.hid (HMs.out.mono (Nat.zero_le _)), Lib.hid (KeysD.made.eqv fun k => by rw [hit_none]; simp)⟩
    refine HUs.out.eqv (by omega) (fun n hn => ?_) (fun n hn => ?_)
    · rw [gH, hit_none, if_neg (by decide), HT0.out]
    · rw [gH, hit_none, if_neg (by decide), HT0.out]
  case round =>
    obtain ⟨s, hs, hlo, rfl, HT, HU, D1, HM, HK⟩ := hrel
    have hzr := HT.out.size
    have hns : ¬ (w.heap.size + 1 = g1 ∨ w.heap.size + 1 = g2 ∨ w.heap.size + 1 = M0) := by omega
    have hnr : ¬ (w.heap.size + 1 + 1 = g1 ∨ w.heap.size + 1 + 1 = g2 ∨ w.heap.size + 1 + 1 = M0) := by omega
    have hBr : Below w.heap.size w wr := HT.out.below (by rintro q (rfl | rfl | rfl) <;> omega) HBL.out (by omega)
    have d0 := HT.out.cell (a := ⟨w.heap.size + 1, 0, none⟩) hns c_s0
    have d1 := HT.out.cell (a := ⟨w.heap.size + 1, 1, none⟩) hns c_s1
    have d2 := HT.out.cell (a := ⟨w.heap.size + 1, 2, none⟩) hns c_s2
    have d3 := HT.out.cell (a := ⟨w.heap.size + 1, 3, none⟩) hns c_s3
    have d4 := HT.out.cell (a := ⟨w.heap.size + 1, 4, none⟩) hns c_s4
    have d5 := HT.out.cell (a := ⟨w.heap.size + 1, 5, none⟩) hns c_s5
    by_cases hlt : s < hi
    · have PRs := PR.out s (by omega) wr hBr
      have hk1 : (s : Int) * (S : Int) = ((s * S : Nat) : Int) := by push_cast; rfl
      have hk2 : ((s : Int) + 1) * (S : Int) = (((s + 1) * S : Nat) : Int) := by push_cast; rfl
      have hkb1 : s * S ≤ 65536 := by
        have : s * S ≤ F * S := Nat.mul_le_mul_right _ (by omega)
        rw [Nat.mul_comm F] at this
        omega
      have hkb2 : (s + 1) * S ≤ 65536 := by
        have : (s + 1) * S ≤ F * S := Nat.mul_le_mul_right _ (by omega)
        rw [Nat.mul_comm F] at this
        omega
      generalize s * S = p1 at *
      generalize (s + 1) * S = p2 at *
      obtain ⟨m1, hm1⟩ : ∃ m1, (F + s) / 2 = m1 := ⟨_, rfl⟩
      have q1 : ((F : Int) + (s : Int)) / 2 = (m1 : Int) := by omega
      have q2 : ((F : Int) + (s : Int)).tdiv 2 = (m1 : Int) := by rw [Int.tdiv_eq_ediv_of_nonneg (by omega)]; omega
      have hm1b : m1 ≤ 16384 := by omega
      have HM1 := Lib.hid hm1
      have PRs := Lib.hid PRs
      have HS := Lib.hid hs
      clear hm1 hs
      cases hpl : pl s with
      | nil =>
        have PL0 : tellT (pl s) = (0, 0) := by rw [hpl]; rfl
        have hpl0 : (pl s).length = 0 := by rw [hpl]; rfl
        go_wp2_with fail
        refine PRs.out.mono ?_
        rintro e w5 ⟨v, rfl, o3, hb5⟩
        rw [hpl0] at o3
        obtain ⟨la, lca, hvl, -⟩ := owns_news o3
        subst hvl
        clear o3
        have t5 : Tn (fun q => q = g1 ∨ q = g2 ∨ q = M0) wr w5 := Tn.of_below hb5
        have hu5 := HU.out.tn (Tn.of_below (S := fun _ => False) hb5) (fun h => h) (fun h => h) (fun h => h)
        have TL := Lib.hid (tell_ok hu5 (by omega) (by omega) HNL.out (F + s) (by omega) (by have := HNL.out; omega) 0 0)
        rw [show ((F + s : Nat) : Int) = (F : Int) + (s : Int) by push_cast; rfl] at TL
        have T5 := Lib.hid t5
        have T5b := Lib.hid hb5
        clear t5 hu5 hb5 d0 d1 d2 d3 d4 d5
        go_wp2_with fail
        refine TL.out.mono ?_
        rintro e w6 ⟨⟨v, rfl⟩, ht6, hu6⟩
        have t6 : Tn (fun q => q = g1 ∨ q = g2 ∨ q = M0) wr w6 := T5.out.trans (ht6.wide fun q h => h.elim .inl (fun h => .inr (.inl h)))
        have m6 : OwnM w6 M0 s D1 := own_tn (own_tn HM.out (Tn.of_below (S := fun q => q = g1 ∨ q = g2) T5b.out) (by omega)) ht6 (by omega)
        have M6 := Lib.hid m6
        have T6 := Lib.hid t6
        have H6 := Lib.hid hu6
        have mr6 := m6
        have HTL := HT
        clear ht6 hu6 m6 t6 T5 T5b TL PRs HT HU
        go_wp2_with (first | (at_lookup; refine wpList_lookup_own_int _ rfl _ _ 79 rfl 3 3 .i64 law_int Try.underlying79 Try.underlying3 (zero_int _) M0 _ _ rfl mr6 _ _ rfl (key_nat (by omega)) ?_; intro c hat hwc) | (at_mapUpdate; refine wpList_mapUpdate_own _ rfl _ _ _ 79 rfl 3 3 law_int Try.underlying79 _ M0 _ _ rfl mr6 (by unfold maxLen; omega) _ _ _ rfl rfl (key_nat (by omega)) _ [] (plainElem_int Try.underlying3 (wrap64_wf _)) ?_; intro w7 hown7 hgrow7) | fail)
        have t7 : Tn (fun q => q = g1 ∨ q = g2 ∨ q = M0) wr w7 := T6.out.trans (Tn.of_grown hgrow7 (.inr (.inr rfl)))
        have hu7 := H6.out.tn (Tn.of_grown (S := fun q => q = M0) hgrow7 rfl) (by omega) (by omega) (by omega)
        go_roundg (gk - 1)
        case measure => have := HS.out; omega
        case rel =>
          refine ⟨s + 1, by have := HS.out; omega, by omega, by go_num, Lib.hid (HTL.out.trans t7), Lib.hid (hu7.eqv (by omega) (fun n hn => ?_) (fun n hn => ?_)), _, Lib.hid hown7, Lib.hid ((HK.out.put M6.out.isMap (by omega) _).eqv fun k => ?_)⟩
          · dsimp only [upd]
            rw [gH_next hlo, PL0]
            split <;> rfl
          · dsimp only [upd]
            rw [gH_next hlo, PL0]
            split <;> rfl
          · rw [hit_succ, hit_succ]
            constructor
            · rintro (rfl | ⟨j, hj, rfl⟩)
              · exact ⟨F + s, hit0.2 (by omega), HM1.out⟩
              · exact ⟨j, hit0.2 (by have := hit0.1 hj; omega), rfl⟩
            · rintro ⟨j, hj, rfl⟩
              have := hit0.1 hj
              by_cases e : j = F + s
              · subst e; exact .inl HM1.out
              · exact .inr ⟨j, hit0.2 (by omega), rfl⟩
      | cons p r =>
        obtain ⟨m, hmm⟩ : ∃ m, (pl s).length = m + 1 := ⟨r.length, by rw [hpl]; rfl⟩
        have hne : pl s ≠ [] := by rw [hpl]; simp
        obtain ⟨y, hy⟩ : ∃ y, ((pl s).getD m (0, 0)).1 = y := ⟨_, rfl⟩
        have PL0 : tellT (pl s) = (y, (m : Int) + 1) := by
          rw [tellT, if_neg hne, hmm, Nat.add_sub_cancel, hy]
          push_cast
          rfl
        have hm64 := PL.out s
        rw [hmm] at hm64
        have hx0 : ((m : Int) + 1 == 0) = false := by simp; omega
        go_wp2_with fail
        refine PRs.out.mono ?_
        rintro e w5 ⟨v, rfl, o3, hb5⟩
        obtain ⟨la, lca, hvl, hil, -, -, -, -⟩ := row_of_owns o3
        obtain ⟨bl, ol, rfl, c0, -, zl⟩ := pr_get hil (i := m) (by rw [hmm]; omega)
        rw [hmm] at hvl
        rw [hy] at c0
        subst hvl
        clear o3 hil
        have t5 : Tn (fun q => q = g1 ∨ q = g2 ∨ q = M0) wr w5 := Tn.of_below hb5
        have hu5 := HU.out.tn (Tn.of_below (S := fun _ => False) hb5) (fun h => h) (fun h => h) (fun h => h)
        have TL := Lib.hid (tell_ok hu5 (by omega) (by omega) HNL.out (F + s) (by omega) (by have := HNL.out; omega) y ((m : Int) + 1))
        rw [show ((F + s : Nat) : Int) = (F : Int) + (s : Int) by push_cast; rfl] at TL
        have T5 := Lib.hid t5
        have T5b := Lib.hid hb5
        clear t5 hu5 hb5 d0 d1 d2 d3 d4 d5
        go_wp2_with fail
        refine TL.out.mono ?_
        rintro e w6 ⟨⟨v, rfl⟩, ht6, hu6⟩
        have t6 : Tn (fun q => q = g1 ∨ q = g2 ∨ q = M0) wr w6 := T5.out.trans (ht6.wide fun q h => h.elim .inl (fun h => .inr (.inl h)))
        have m6 : OwnM w6 M0 s D1 := own_tn (own_tn HM.out (Tn.of_below (S := fun q => q = g1 ∨ q = g2) T5b.out) (by omega)) ht6 (by omega)
        have M6 := Lib.hid m6
        have T6 := Lib.hid t6
        have H6 := Lib.hid hu6
        have mr6 := m6
        have HTL := HT
        clear ht6 hu6 m6 t6 T5 T5b TL PRs HT HU
        go_wp2_with (first | (at_lookup; refine wpList_lookup_own_int _ rfl _ _ 79 rfl 3 3 .i64 law_int Try.underlying79 Try.underlying3 (zero_int _) M0 _ _ rfl mr6 _ _ rfl (key_nat (by omega)) ?_; intro c hat hwc) | (at_mapUpdate; refine wpList_mapUpdate_own _ rfl _ _ _ 79 rfl 3 3 law_int Try.underlying79 _ M0 _ _ rfl mr6 (by unfold maxLen; omega) _ _ _ rfl rfl (key_nat (by omega)) _ [] (plainElem_int Try.underlying3 (wrap64_wf _)) ?_; intro w7 hown7 hgrow7) | fail)
        have t7 : Tn (fun q => q = g1 ∨ q = g2 ∨ q = M0) wr w7 := T6.out.trans (Tn.of_grown hgrow7 (.inr (.inr rfl)))
        have hu7 := H6.out.tn (Tn.of_grown (S := fun q => q = M0) hgrow7 rfl) (by omega) (by omega) (by omega)
        go_roundg (gk - 1)
        case measure => have := HS.out; omega
        case rel =>
          refine ⟨s + 1, by have := HS.out; omega, by omega, by go_num, Lib.hid (HTL.out.trans t7), Lib.hid (hu7.eqv (by omega) (fun n hn => ?_) (fun n hn => ?_)), _, Lib.hid hown7, Lib.hid ((HK.out.put M6.out.isMap (by omega) _).eqv fun k => ?_)⟩
          · dsimp only [upd]
            rw [gH_next hlo, PL0]
            split <;> rfl
          · dsimp only [upd]
            rw [gH_next hlo, PL0]
            split <;> rfl
          · rw [hit_succ, hit_succ]
            constructor
            · rintro (rfl | ⟨j, hj, rfl⟩)
              · exact ⟨F + s, hit0.2 (by omega), HM1.out⟩
              · exact ⟨j, hit0.2 (by have := hit0.1 hj; omega), rfl⟩
            · rintro ⟨j, hj, rfl⟩
              have := hit0.1 hj
              by_cases e : j = F + s
              · subst e; exact .inl HM1.out
              · exact .inr ⟨j, hit0.2 (by omega), rfl⟩
    · have hsh : hi = s := by omega
      subst hsh
      have M1 := HM.out
      have HTW : Hid (Tn (fun q => q = g1 ∨ q = g2 ∨ U < q) wL wr) := Lib.hid (HT.out.wide fun q h => by rcases h with h | h | h <;> omega)
      clear d0 d1 d2 d3 d4 d5 hBr HT PR PL
      go_wp2_with (first | (at_delete; refine wpList_delete_own _ rfl _ _ 79 3 rfl 3 law_int Try.underlying79 _ M0 _ _ rfl M1 _ _ rfl key_zero ?_; intro w7 hown7 hturn7; go_frame) | fail)
      refine wp_label ?_
      have t7 : Tn (fun q => q = g1 ∨ q = g2 ∨ U < q) wL w7 := HTW.out.trans (Tn.of_grown hturn7.grown (by omega))
      have hu7 := HU.out.tn (Tn.of_grown (S := fun q => q = M0) hturn7.grown rfl) (by omega) (by omega) (by omega)
      have k7 : KeysD (D1.del (.int .i64 0)) fun k => k ≠ 0 ∧ hitB F lo hi 1 k = true := HK.out.del (m := 0) (by omega)
      have T7 := Lib.hid t7
      have U7 := Lib.hid hu7
      have K7 := Lib.hid k7
      have O7 := Lib.hid hown7
      clear t7 hu7 k7 hown7 hturn7 HTW HU HK HM M1
      go_wp2
      go_loopg [15] D (fun gk mv wr => ∃ h mb n D2, h + gk = D ∧ mv = .map (some mb) ∧ U < mb ∧ n ≤ 20000 ∧ Hid (Tn (fun q => q = g1 ∨ q = g2 ∨ U < q) wL wr) ∧ Hid (UndS w2.heap.size wr U g1 g2 N k1 k2 L (fun n => (gH (fun s => tellT (pl s)) T0 F lo hi h n).1) (fun n => (gH (fun s => tellT (pl s)) T0 F lo hi h n).2)) ∧ Hid (OwnM wr mb n D2) ∧ Hid (KeysD D2 fun k => k ≠ 0 ∧ hitB F lo hi (h + 1) k = true))
      case atStart => exact ⟨0, M0, hi, _, by omega, rfl, by omega, by omega, T7, U7, O7, K7⟩
      case round =>
        obtain ⟨h, mb, n, D2, hgk, rfl, hUm, hn, HT, HU, HM, HK⟩ := hrel
        have hzr := HT.out.size
        have HGK := Lib.hid hgk
        clear hgk
        by_cases hk : ∃ k, k ≠ 0 ∧ hitB F lo hi (h + 1) k = true
        · obtain ⟨k0, hk0, hk1⟩ := hk
          have hhD : h + 1 ≤ D := by
            have hg := HGK.out
            apply Nat.le_of_not_lt
            intro hlt
            have e : h = D := by omega
            rw [e, ← HFP.out] at hk1
            exact hk0 (hit_top (by rw [HFP.out]; omega) hk1)
          have hrk : k0 ≤ 1000000 := by
            rw [← HFP.out] at hk1
            have := (hit_range (by rw [HFP.out]; omega) hhD hk1).2
            have h3 : 2 ^ (D - (h + 1)) ≤ 2 ^ 13 := Nat.pow_le_pow_right (by omega) (by omega)
            omega
          have hsz : Maps.size D2 ≠ 0 := keys_some HK.out ⟨hk0, hk1⟩ hrk
          have hsz2 : ((Maps.size D2 : Int) == 0) = false := by simp; omega
          have hszn := HM.out.size_le
          have M1 := HM.out
          have hmm := @run_makeMap Try.prog
          clear hk0 hk1 hrk hsz
          obtain ⟨MB, hMB⟩ : ∃ MB, wr.heap.size = MB := ⟨_, rfl⟩
          have hMBU : U < MB := by have := HZ.out; omega
          have hal : Tn (fun q => q = g1 ∨ q = g2 ∨ U < q) wr (wr.alloc (.map #[] 0)) := Tn.of_below ((Below.refl _ _).alloc (Nat.le_refl _) _)
          have M1a : OwnM (wr.alloc (.map #[] 0)) mb n D2 := own_tn (S := fun _ => False) M1 (Tn.of_below ((Below.refl _ _).alloc (Nat.le_refl _) _)) (fun h => h)
          have N1a : OwnM (wr.alloc (.map #[] 0)) MB 0 (.map []) := by
            rw [← hMB]
            exact World.ownsMap_made wr Try.prog 3 (plainElem Try.prog 3)
          have hmbM : mb < MB := by rw [← hMB]; exact M1.lt
          have hsa : (wr.alloc (.map #[] 0)).heap.size = MB + 1 := by simp; omega
          have HAL := Lib.hid (HT.out.trans hal)
          have HUA := Lib.hid (HU.out.tn (Tn.of_below (S := fun _ => False) ((Below.refl _ _).alloc (Nat.le_refl _) (.map #[] 0))) (fun h => h) (fun h => h) (fun h => h))
          have HNA := Lib.hid N1a
          clear N1a hal HU HM HT hzr
          go_wp2_with (first | (at_len; refine wpList_len_own _ rfl _ 79 rfl 3 3 Try.underlying79 _ mb _ _ rfl M1 ?_) | (at_range; refine wpList_range_own _ rfl _ 79 rfl 3 3 law_int Try.underlying79 _ mb _ _ rfl M1a ?_; intro w8 hrg8 hg8 hs8) | fail)
          go_frame
          rw [hsa] at hrg8 hs8 ⊢
          clear hmm hsz2
          have t8 : Tn (fun q => q = g1 ∨ q = g2 ∨ U < q) wL w8 := HAL.out.trans (Tn.grown0 hg8)
          have u8 := HUA.out.tn (Tn.grown0 (S := fun _ => False) hg8) (fun h => h) (fun h => h) (fun h => h)
          have n8 : OwnM w8 MB 0 (.map []) := own_tn (S := fun _ => False) HNA.out (Tn.grown0 hg8) (fun h => h)
          have T8 := Lib.hid t8
          have U8 := Lib.hid u8
          have N8 := Lib.hid n8
          have HSN : Hid (Maps.size D2 ≤ n ∧ n ≤ 20000) := Lib.hid ⟨hszn, hn⟩
          have HB8 : Hid (w8.heap.size = MB + 2) := Lib.hid (by omega)
          clear t8 u8 n8 hg8 hs8 HAL HUA HNA M1 M1a hsa hszn hn
          go_loopg [21] (Maps.size D2) (fun gk xv wq => ∃ (left : Lit → Bool) (na : Nat) (Da : DataW Unit), RngM wq mb (MB + 1) n D2 left gk ∧ Hid (Tn (fun q => q = g1 ∨ q = g2 ∨ U < q) wL wq) ∧ Hid (OwnM wq MB na Da) ∧ Hid (na + gk ≤ n) ∧ Hid (KeysD Da fun y => ∃ m : Nat, (m ≠ 0 ∧ hitB F lo hi (h + 1) m = true) ∧ left (.int .i64 (m : Int)) = false ∧ m / 2 = y) ∧ Hid (∀ x : Int, (Lit.int .i64 x).wf = true → left (.int .i64 x) = true → ∃ m : Nat, x = m ∧ (m ≠ 0 ∧ hitB F lo hi (h + 1) m = true)) ∧ Hid (UndS w2.heap.size wq U g1 g2 N k1 k2 L (fun n => (gM (fun s => tellT (pl s)) T0 F lo hi h (fun m => !left (.int .i64 (m : Nat))) n).1) (fun n => (gM (fun s => tellT (pl s)) T0 F lo hi h (fun m => !left (.int .i64 (m : Nat))) n).2)) ∧ Hid (MB + 2 ≤ wq.heap.size))
          case atStart =>
            refine ⟨_, 0, _, hrg8, T8, N8, Lib.hid (by have := HSN.out; omega), Lib.hid (KeysD.made.eqv fun k => ⟨fun h => h.elim, ?_⟩), Lib.hid ?_, Lib.hid ?_, Lib.hid (by have := HB8.out; omega)⟩
            · rintro ⟨m, ⟨e1, e2⟩, e3, -⟩
              have hm6 : m ≤ 1000000 := by
                rw [← HFP.out] at e2
                have := (hit_range (by rw [HFP.out]; omega) hhD e2).2
                have h3 : 2 ^ (D - (h + 1)) ≤ 2 ^ 13 := Nat.pow_le_pow_right (by omega) (by omega)
                omega
              rw [(HK.out (m : Int) (nat_wf hm6)).2 ⟨m, rfl, e1, e2⟩] at e3
              cases e3
            · intro x hx hl
              exact (HK.out x hx).1 hl
            · refine U8.out.eqv (by omega) (fun n hn => ?_) (fun n hn => ?_)
              all_goals
                rw [gM_none (fun m e2 e1 => ?_) hn]
                have hm6 : m ≤ 1000000 := by
                  rw [← HFP.out] at e2
                  have := (hit_range (by rw [HFP.out]; omega) hhD e2).2
                  have h3 : 2 ^ (D - (h + 1)) ≤ 2 ^ 13 := Nat.pow_le_pow_right (by omega) (by omega)
                  omega
                rw [(HK.out (m : Int) (nat_wf hm6)).2 ⟨m, rfl, e1, e2⟩]
                rfl
          case round =>
            obtain ⟨left, na, Da, hrg, HT9, HA, HNA, HKA, HLF, HU9, HZ9⟩ := hrel
            go_wp2_with (first | (at_next; refine wpList_next_ranges_ii _ rfl _ rfl 3 3 .i64 .i64 law_int Try.underlying3 Try.underlying3 mb (MB + 1) n _ _ _ rfl hrg ?_ ?_) | fail)
            · intro hc0 hl0
              have mA := HA.out
              go_wp2_with (first | (at_delete; refine wpList_delete_own _ rfl _ _ 79 3 rfl 3 law_int Try.underlying79 _ MB _ _ rfl mA _ _ rfl key_zero ?_; intro w7 hown7 hturn7; go_frame) | fail)
              have t7 : Tn (fun q => q = g1 ∨ q = g2 ∨ U < q) wL w7 := HT9.out.trans (Tn.of_grown hturn7.grown (.inr (.inr hMBU)))
              have hu7 := HU9.out.tn (Tn.of_grown (S := fun q => q = MB) hturn7.grown rfl) (by omega) (by omega) (by omega)
              have T7 := Lib.hid t7
              have U7 := Lib.hid hu7
              have O7 := Lib.hid hown7
              clear t7 hu7 hown7 hturn7 mA
              go_wp2
              go_roundg (D - (h + 1))
              case measure => have := HGK.out; omega
              case rel =>
                refine ⟨h + 1, MB, na, _, by omega, rfl, hMBU, by have := HNA.out; have := HSN.out; omega, T7, Lib.hid (U7.out.eqv (by omega) (fun n hn => ?_) (fun n hn => ?_)), O7, Lib.hid ((HKA.out.del (m := 0) (by omega)).eqv fun k => ?_)⟩
                · rw [gM_all (fun m e2 e1 => by rw [hl0]; rfl) hn]
                · rw [gM_all (fun m e2 e1 => by rw [hl0]; rfl) hn]
                · rw [hit_succ (h := h + 1)]
                  constructor
                  · rintro ⟨e0, m, ⟨e1, e2⟩, -, e3⟩
                    exact ⟨e0, m, e2, e3⟩
                  · rintro ⟨e0, m, e2, e3⟩
                    exact ⟨e0, m, ⟨by intro e; subst e; exact e0 (by rw [← e3]), e2⟩, hl0 _, e3⟩
            · intro x c w9 cnt1 hwx hwc hlx hat hrg1 hlt1 hg1x hs1 hen
              obtain ⟨m, rfl, hm0, hm1⟩ := HLF.out x hwx hlx
              have hp13 : 2 ^ (D - (h + 1)) ≤ 2 ^ 13 := Nat.pow_le_pow_right (by omega) (by omega)
              have hpD : 2 * 2 ^ (D - (h + 1)) ≤ F := by
                rw [← HFP.out, ← Nat.pow_succ']
                exact Nat.pow_le_pow_right (by omega) (by omega)
              have hmr := hm1
              rw [← HFP.out] at hmr
              replace hmr := hit_range (by rw [HFP.out]; omega) hhD hmr
              have hp1 := Nat.two_pow_pos (D - (h + 1))
              have hm14 : m ≤ 16384 := by omega
              have hmL : 2 * m + 1 < 2 ^ L := by have := HNL.out; omega
              have GS := gM_step (lf := fun s => tellT (pl s)) (t0 := T0) (D := D) (lo := lo) (hi := hi) (h := h) (done := fun m => !left (.int .i64 (m : Nat))) (n := m) (by rw [HFP.out]; omega) hhD (by rw [HFP.out]; exact hm1)
              rw [HFP.out] at GS
              have t9 : Tn (fun q => q = g1 ∨ q = g2 ∨ U < q) wL w9 := HT9.out.trans (Tn.of_grown hg1x (.inr (.inr (by omega))))
              have u9 := HU9.out.tn (Tn.of_grown (S := fun q => q = MB + 1) hg1x rfl) (by omega) (by omega) (by omega)
              have n9 : OwnM w9 MB na Da := own_tn HA.out (Tn.of_grown (S := fun q => q = MB + 1) hg1x rfl) (by omega)
              have JN := Lib.hid (join_ok u9 hL1 hL14 HNL.out m (by omega) hmL)
              have HGS := Lib.hid GS
              have T9 := Lib.hid t9
              have N9 := Lib.hid n9
              have HR1 := Lib.hid hrg1
              have HM1 := Lib.hid hm1
              have hcn : na ≤ 20000 := by have := HNA.out; have := HSN.out; omega
              have HCN : Hid (na + 1 + cnt1 ≤ n) := Lib.hid (by have := HNA.out; omega)
              have HLT := Lib.hid hlt1
              have HLX := Lib.hid hlx
              clear GS t9 u9 n9 hrg1 hmr hp13 hpD hp1 hmL hm1 hat hwc hwx hg1x hs1 hlt1 hlx hrg
              go_wp2_with fail
              refine JN.out.mono ?_
              rintro e w10 ⟨⟨v, rfl⟩, ht10, hu10⟩
              have t10 : Tn (fun q => q = g1 ∨ q = g2 ∨ U < q) wL w10 := T9.out.trans (ht10.wide fun q h => h.elim .inl (fun h => .inr (.inl h)))
              have r10 := rng_tn HR1.out ht10 (by omega) (by omega)
              have m10 : OwnM w10 MB na Da := own_tn N9.out ht10 (by omega)
              have T10 := Lib.hid t10
              have R10 := Lib.hid r10
              have U10 := Lib.hid hu10
              have Z10 : Hid (MB + 2 ≤ w10.heap.size) := Lib.hid (by have := r10.lt; omega)
              obtain ⟨m2, hm2⟩ : ∃ m2, m / 2 = m2 := ⟨_, rfl⟩
              have q1 : (m : Int) / 2 = (m2 : Int) := by omega
              have q2 : (m : Int).tdiv 2 = (m2 : Int) := by rw [Int.tdiv_eq_ediv_of_nonneg (by omega)]; omega
              have hm2b : m2 ≤ 16384 := by omega
              have HM2 := Lib.hid hm2
              clear t10 r10 hu10 ht10 JN T9 N9 HR1 hm2
              go_wp2_with (first | (at_lookup; refine wpList_lookup_own_int _ rfl _ _ 79 rfl 3 3 .i64 law_int Try.underlying79 Try.underlying3 (zero_int _) MB _ _ rfl m10 _ _ rfl (key_nat (by omega)) ?_; intro c2 hat2 hwc2) | (at_mapUpdate; refine wpList_mapUpdate_own _ rfl _ _ _ 79 rfl 3 3 law_int Try.underlying79 _ MB _ _ rfl m10 (by unfold maxLen; omega) _ _ _ rfl rfl (key_nat (by omega)) _ [] (plainElem_int Try.underlying3 (wrap64_wf _)) ?_; intro w11 hown11 hgrow11; go_frame) | fail)
              have t11 : Tn (fun q => q = g1 ∨ q = g2 ∨ U < q) wL w11 := T10.out.trans (Tn.of_grown hgrow11 (.inr (.inr hMBU)))
              have u11 := U10.out.tn (Tn.of_grown (S := fun q => q = MB) hgrow11 rfl) (by omega) (by omega) (by omega)
              have r11 := rng_tn R10.out (Tn.of_grown (S := fun q => q = MB) hgrow11 rfl) (by omega) (by omega)
              have s11 := hgrow11.size
              go_roundg cnt1
              case measure => exact HLT.out
              case rel =>
                refine ⟨_, na + 1, _, r11, Lib.hid t11, Lib.hid hown11, HCN, Lib.hid ((HKA.out.put m10.isMap (by omega) _).eqv fun k => ?_), Lib.hid fun x hx hl => ?_, Lib.hid (u11.eqv (by omega) (fun n hn => ?_) (fun n hn => ?_)), Lib.hid (by have := Z10.out; omega)⟩
                · constructor
                  · rintro (rfl | ⟨j, ⟨e1, e2⟩, e3, e4⟩)
                    · exact ⟨m, ⟨hm0, HM1.out⟩, by rw [strike_nat]; simp, HM2.out⟩
                    · exact ⟨j, ⟨e1, e2⟩, by rw [e3]; rfl, e4⟩
                  · rintro ⟨j, ⟨e1, e2⟩, e3, e4⟩
                    rw [strike_nat] at e3
                    by_cases e : j = m
                    · subst e; exact .inl (e4.symm.trans HM2.out)
                    · exact .inr ⟨j, ⟨e1, e2⟩, by simpa [e] using e3, e4⟩
                · exact HLF.out x hx (by simp only [Bool.and_eq_true] at hl; exact hl.1)
                · have e : (fun m' : Nat => !(left (.int .i64 (m' : Int)) && !(Lit.int .i64 (m' : Int)).sameKey (.int .i64 (m : Int)))) = fun x : Nat => (!left (.int .i64 (x : Int))) || x == m := by
                    funext x
                    rw [strike_nat]
                    cases left (.int .i64 (x : Int)) <;> simp
                  rw [e, HGS.out.2.2 n]
                  dsimp only [upd]
                  split
                  · rw [HGS.out.1, HGS.out.2.1]
                  · rfl
                · have e : (fun m' : Nat => !(left (.int .i64 (m' : Int)) && !(Lit.int .i64 (m' : Int)).sameKey (.int .i64 (m : Int)))) = fun x : Nat => (!left (.int .i64 (x : Int))) || x == m := by
                    funext x
                    rw [strike_nat]
                    cases left (.int .i64 (x : Int)) <;> simp
                  rw [e, HGS.out.2.2 n]
                  dsimp only [upd]
                  split
                  · rw [HGS.out.1, HGS.out.2.1]
                  · rfl
        · have hnk : ∀ k, ¬ (k ≠ 0 ∧ hitB F lo hi (h + 1) k = true) := fun k hh => hk ⟨k, hh⟩
          have hsz := keys_none HM.out HK.out hnk
          have hsz2 : ((Maps.size D2 : Int) == 0) = true := by rw [hsz]; rfl
          have M1 := HM.out
          have u0 := HU.out.eqv (f' := fun n => (gH (fun s => tellT (pl s)) T0 F lo hi D n).1) (g' := fun n => (gH (fun s => tellT (pl s)) T0 F lo hi D n).2) (by omega) (fun n hn => by rw [gH_end hnk HGK.out hn]) (fun n hn => by rw [gH_end hnk HGK.out hn])
          have hnr : ¬ (w.heap.size + 1 + 1 = g1 ∨ w.heap.size + 1 + 1 = g2 ∨ U < w.heap.size + 1 + 1) := by omega
          have p0 := HT.out.cell (a := ⟨w.heap.size + 1 + 1, 0, none⟩) hnr c_r0
          have p1 := HT.out.cell (a := ⟨w.heap.size + 1 + 1, 1, none⟩) hnr c_r1
          have p2 := HT.out.cell (a := ⟨w.heap.size + 1 + 1, 2, none⟩) hnr c_r2
          have p3 := HT.out.frozen (a := ⟨w.heap.size + 1 + 1, 0, none⟩) z_r hnr f_r0
          have p4 := HT.out.frozen (a := ⟨w.heap.size + 1 + 1, 1, none⟩) z_r hnr f_r1
          have p5 := HT.out.frozen (a := ⟨w.heap.size + 1 + 1, 2, none⟩) z_r hnr f_r2
          have hBr : Below w.heap.size w wr := HT.out.below (by rintro q (rfl | rfl | h) <;> omega) HBL.out (by omega)
          have e0 := u0.c0
          have e1 := u0.c1
          have e2 := u0.c2
          have HUF := Lib.hid u0
          have HBR := Lib.hid hBr
          clear hnk hsz u0 hBr HU HK HM HT hzr hk c_r0 c_r1 c_r2 f_r0 f_r1 f_r2 c_s0 c_s1 c_s2 c_s3 c_s4 c_s5 c_x0 c_x1 c_x2
          go_wp2_with (first | (at_len; refine wpList_len_own _ rfl _ 79 rfl 3 3 Try.underlying79 _ mb _ _ rfl M1 ?_) | fail)
          simp only [Exit.jump]
          have hts := three_set (x := .int .i64 L) (y := .slice (some ⟨g1, 0, none⟩) N k1) (z := .slice (some ⟨g2, 0, none⟩) N k2) p0 p1 p2
          have hkE : ∀ q, q ≠ w.heap.size + 1 + 1 → (((wr.setCell ⟨w.heap.size + 1 + 1, 0, none⟩ (.int .i64 L)).setCell ⟨w.heap.size + 1 + 1, 1, none⟩ (.slice (some ⟨g1, 0, none⟩) N k1)).setCell ⟨w.heap.size + 1 + 1, 2, none⟩ (.slice (some ⟨g2, 0, none⟩) N k2)).heap[q]? = wr.heap[q]? := fun q hq => by rw [heap_setCell_ne _ _ _ hq, heap_setCell_ne _ _ _ hq, heap_setCell_ne _ _ _ hq]
          have hln : ∀ f : Nat → Int, ((lay L 1).map f).length = N := fun f => by rw [List.length_map, lay_len 1 (by omega)]; have := HNL.out; omega
          refine bodyPost_ret (results_ct rfl rfl (run_loadVar_many _ Try.underlying25 rfl (by kernel_rfl) (three_at hts.1 hts.2.1 hts.2.2))) rfl ⟨_, _, rfl, ?_, ?_, ?_⟩
          · rw [hln]
            exact owns_base (owns_heap HUF.out.o1 fun q hq => hkE q (by have e : g1 = q := Option.some.inj hq; omega)) (by omega)
          · rw [hln]
            exact owns_base (owns_heap HUF.out.o2 fun q hq => hkE q (by have e : g2 = q := Option.some.inj hq; omega)) (by omega)
          · exact ((HBR.out.setCell (by dsimp only; omega) _).setCell (by dsimp only; omega) _).setCell (by dsimp only; omega) _
end Go.Proofs.Ytbmibaafkgleeaa
