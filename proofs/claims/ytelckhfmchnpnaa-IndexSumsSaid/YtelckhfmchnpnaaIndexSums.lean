/-
  IndexSums: the root tells the sum of the leaves.
  No condition.
-/
import Derived.Test.YtelckhfmchnpnaaAlvSum
import Derived.Test.YtelckhfmchnpnaaDownMay
namespace Go.Proofs.Ytelckhfmchnpnaa
open Go.RowKit
set_option linter.unusedVariables false
set_option linter.unusedSimpArgs false

theorem lastK_snoc (a : List (Int × Int)) (p : Int × Int) (x : Int) : lastK (a ++ [p]) x = if 0 < p.2 then p.1 else lastK a x := by
  rw [lastK_append]
  rfl
set_option maxRecDepth 100000 in
set_option maxHeartbeats 1000000 in
theorem IndexSums_may (l : Int) (ma ca : Option Addr) (mc cc n1 n2 N F : Nat) (hNF : N + 1 = 2 * F) (hF : 1 ≤ F) (hF2 : F ≤ 8192) (f g : Nat → Int) (lv : List (Int × Int)) (hlv : lv.length = F) (hget : ∀ i, i < F → lv.take (i + 1) = lv.take i ++ [(f (F + i), g (F + i))]) (hb : ∀ i, i < F → 0 ≤ g (F + i) ∧ g (F + i) ≤ g 1 - cntL (lv.take i) ∧ 0 ≤ g 1 - cntL (lv.take i) ∧ g 1 - cntL (lv.take i) ≤ 65536) (hcnt : cntL lv = g 1) (hlast : lastK lv 0 = f 1) (w : World)
    (AL : Hid (∀ W, Calls Try.prog 26 #[] W (AnsB W (.bool true))))
    (SM : Hid (∀ W, Calls Try.prog 27 #[ixV l ma n1 mc ca n2 cc] W (AnsB W (.bool true))))
    (CK : Hid (∀ W, Below w.heap.size w W → Calls Try.prog 14 #[ixV l ma n1 mc ca n2 cc] W (AnsB W (.int .i64 0))))
    (AT : Hid (∀ W, Below w.heap.size w W → ∀ n : Nat, 1 ≤ n → n ≤ N → Calls Try.prog 12 #[ixV l ma n1 mc ca n2 cc, .int .i64 n] W (AnsB W (.tuple #[.int .i64 (f n), .int .i64 (g n), .int .i64 0]))))
    (SZ : Hid (∀ W, Calls Try.prog 28 #[.int .i64 l] W fun e w' => e = .returned (.tuple #[.int .i64 N, .int .i64 0]) ∧ W = w')) :
    Calls Try.prog 5 #[ixV l ma n1 mc ca n2 cc] w (AnsB w (.bool true)) := by
  have HG := Lib.hid hget
  have HBD := Lib.hid hb
  have HCN := Lib.hid hcnt
  have HLA := Lib.hid hlast
  have HLV := Lib.hid hlv
  have HNF := Lib.hid hNF
  have hq1 : (N : Int) / 2 = (F : Int) - 1 := by omega
  have hq2 : (N : Int).tdiv 2 = (F : Int) - 1 := by rw [Int.tdiv_eq_ediv_of_nonneg (by omega)]; omega
  have AT1 := Lib.hid (fun W hW => AT.out W hW 1 (Nat.le_refl 1) (by omega))
  clear hget hb hcnt hlast hlv hNF
  go_enter Try.func5, Try.ntmps5
  go_wp2_with fail
  refine (AL.out _).mono ?_
  rintro e w1 ⟨rfl, hb1⟩
  have hz_w1 := hb1.size
  try simp only [World.size_alloc, World.size_setCell] at hz_w1
  have c_x0 : w1.cell? ⟨w.heap.size, 0, none⟩ = some (.int .i64 l) := (hb1.cell (p := ⟨w.heap.size, 0, none⟩) (by (first | (with_reducible assumption) | omega | (simp only [World.size_alloc, World.size_setCell, World.size_drew, World.heap_drewN] <;> omega) | (simp <;> omega)))).trans (by (first | (with_reducible assumption) | ((try simp (disch := first | omega | (simp only [World.size_alloc, World.size_setCell, World.size_drew, World.heap_drewN] <;> omega) | fail) only [World.cell?_alloc_past, World.cell?_alloc_at, World.frozen?_alloc_past, World.frozen?_alloc_at, World.frozen?_setCell, World.cell?_drew, World.frozen?_drew]) <;> first | (with_reducible assumption) | rfl)))
  have c_x1 : w1.cell? ⟨w.heap.size, 1, none⟩ = some (.slice ma n1 mc) := (hb1.cell (p := ⟨w.heap.size, 1, none⟩) (by (first | (with_reducible assumption) | omega | (simp only [World.size_alloc, World.size_setCell, World.size_drew, World.heap_drewN] <;> omega) | (simp <;> omega)))).trans (by (first | (with_reducible assumption) | ((try simp (disch := first | omega | (simp only [World.size_alloc, World.size_setCell, World.size_drew, World.heap_drewN] <;> omega) | fail) only [World.cell?_alloc_past, World.cell?_alloc_at, World.frozen?_alloc_past, World.frozen?_alloc_at, World.frozen?_setCell, World.cell?_drew, World.frozen?_drew]) <;> first | (with_reducible assumption) | rfl)))
  have c_x2 : w1.cell? ⟨w.heap.size, 2, none⟩ = some (.slice ca n2 cc) := (hb1.cell (p := ⟨w.heap.size, 2, none⟩) (by (first | (with_reducible assumption) | omega | (simp only [World.size_alloc, World.size_setCell, World.size_drew, World.heap_drewN] <;> omega) | (simp <;> omega)))).trans (by (first | (with_reducible assumption) | ((try simp (disch := first | omega | (simp only [World.size_alloc, World.size_setCell, World.size_drew, World.heap_drewN] <;> omega) | fail) only [World.cell?_alloc_past, World.cell?_alloc_at, World.frozen?_alloc_past, World.frozen?_alloc_at, World.frozen?_setCell, World.cell?_drew, World.frozen?_drew]) <;> first | (with_reducible assumption) | rfl)))
  have z_x : w.heap.size < w1.heap.size := by omega
  have hB1 : Below w.heap.size w w1 := by (repeat (first | (with_reducible exact Below.refl _ _) | (with_reducible assumption) | (with_reducible exact Hid.out (by with_reducible assumption)) | (with_reducible refine Below.alloc ?_ ?_ _) | (with_reducible refine Below.setCell ?_ ?_ _) | (with_reducible refine below_drewN ?_ _) | (with_reducible refine Below.drew ?_) | (with_reducible refine below_via (by with_reducible assumption) ?_ ?_) | (first | (with_reducible assumption) | omega | (simp only [World.size_alloc, World.size_setCell, World.size_drew, World.heap_drewN] <;> omega) | (simp <;> omega))))
  go_wp2_with fail
  refine (SM.out _).mono ?_
  rintro e w2 ⟨rfl, hb2⟩
  have hz_w2 := hb2.size
  try simp only [World.size_alloc, World.size_setCell] at hz_w2
  replace c_x0 : w2.cell? ⟨w.heap.size, 0, none⟩ = some (.int .i64 l) := (hb2.cell (p := ⟨w.heap.size, 0, none⟩) (by (first | (with_reducible assumption) | omega | (simp only [World.size_alloc, World.size_setCell, World.size_drew, World.heap_drewN] <;> omega) | (simp <;> omega)))).trans (by (first | (with_reducible assumption) | ((try simp (disch := first | omega | (simp only [World.size_alloc, World.size_setCell, World.size_drew, World.heap_drewN] <;> omega) | fail) only [World.cell?_alloc_past, World.cell?_alloc_at, World.frozen?_alloc_past, World.frozen?_alloc_at, World.frozen?_setCell, World.cell?_drew, World.frozen?_drew]) <;> first | (with_reducible assumption) | rfl)))
  replace c_x1 : w2.cell? ⟨w.heap.size, 1, none⟩ = some (.slice ma n1 mc) := (hb2.cell (p := ⟨w.heap.size, 1, none⟩) (by (first | (with_reducible assumption) | omega | (simp only [World.size_alloc, World.size_setCell, World.size_drew, World.heap_drewN] <;> omega) | (simp <;> omega)))).trans (by (first | (with_reducible assumption) | ((try simp (disch := first | omega | (simp only [World.size_alloc, World.size_setCell, World.size_drew, World.heap_drewN] <;> omega) | fail) only [World.cell?_alloc_past, World.cell?_alloc_at, World.frozen?_alloc_past, World.frozen?_alloc_at, World.frozen?_setCell, World.cell?_drew, World.frozen?_drew]) <;> first | (with_reducible assumption) | rfl)))
  replace c_x2 : w2.cell? ⟨w.heap.size, 2, none⟩ = some (.slice ca n2 cc) := (hb2.cell (p := ⟨w.heap.size, 2, none⟩) (by (first | (with_reducible assumption) | omega | (simp only [World.size_alloc, World.size_setCell, World.size_drew, World.heap_drewN] <;> omega) | (simp <;> omega)))).trans (by (first | (with_reducible assumption) | ((try simp (disch := first | omega | (simp only [World.size_alloc, World.size_setCell, World.size_drew, World.heap_drewN] <;> omega) | fail) only [World.cell?_alloc_past, World.cell?_alloc_at, World.frozen?_alloc_past, World.frozen?_alloc_at, World.frozen?_setCell, World.cell?_drew, World.frozen?_drew]) <;> first | (with_reducible assumption) | rfl)))
  replace z_x : w.heap.size < w2.heap.size := by omega
  have hB2 : Below w.heap.size w w2 := by (repeat (first | (with_reducible exact Below.refl _ _) | (with_reducible assumption) | (with_reducible exact Hid.out (by with_reducible assumption)) | (with_reducible refine Below.alloc ?_ ?_ _) | (with_reducible refine Below.setCell ?_ ?_ _) | (with_reducible refine below_drewN ?_ _) | (with_reducible refine Below.drew ?_) | (with_reducible refine below_via (by with_reducible assumption) ?_ ?_) | (first | (with_reducible assumption) | omega | (simp only [World.size_alloc, World.size_setCell, World.size_drew, World.heap_drewN] <;> omega) | (simp <;> omega))))
  go_wp2_with fail
  refine (CK.out _ hB2).mono ?_
  rintro e w3 ⟨rfl, hb3⟩
  have hz_w3 := hb3.size
  try simp only [World.size_alloc, World.size_setCell] at hz_w3
  replace c_x0 : w3.cell? ⟨w.heap.size, 0, none⟩ = some (.int .i64 l) := (hb3.cell (p := ⟨w.heap.size, 0, none⟩) (by (first | (with_reducible assumption) | omega | (simp only [World.size_alloc, World.size_setCell, World.size_drew, World.heap_drewN] <;> omega) | (simp <;> omega)))).trans (by (first | (with_reducible assumption) | ((try simp (disch := first | omega | (simp only [World.size_alloc, World.size_setCell, World.size_drew, World.heap_drewN] <;> omega) | fail) only [World.cell?_alloc_past, World.cell?_alloc_at, World.frozen?_alloc_past, World.frozen?_alloc_at, World.frozen?_setCell, World.cell?_drew, World.frozen?_drew]) <;> first | (with_reducible assumption) | rfl)))
  replace c_x1 : w3.cell? ⟨w.heap.size, 1, none⟩ = some (.slice ma n1 mc) := (hb3.cell (p := ⟨w.heap.size, 1, none⟩) (by (first | (with_reducible assumption) | omega | (simp only [World.size_alloc, World.size_setCell, World.size_drew, World.heap_drewN] <;> omega) | (simp <;> omega)))).trans (by (first | (with_reducible assumption) | ((try simp (disch := first | omega | (simp only [World.size_alloc, World.size_setCell, World.size_drew, World.heap_drewN] <;> omega) | fail) only [World.cell?_alloc_past, World.cell?_alloc_at, World.frozen?_alloc_past, World.frozen?_alloc_at, World.frozen?_setCell, World.cell?_drew, World.frozen?_drew]) <;> first | (with_reducible assumption) | rfl)))
  replace c_x2 : w3.cell? ⟨w.heap.size, 2, none⟩ = some (.slice ca n2 cc) := (hb3.cell (p := ⟨w.heap.size, 2, none⟩) (by (first | (with_reducible assumption) | omega | (simp only [World.size_alloc, World.size_setCell, World.size_drew, World.heap_drewN] <;> omega) | (simp <;> omega)))).trans (by (first | (with_reducible assumption) | ((try simp (disch := first | omega | (simp only [World.size_alloc, World.size_setCell, World.size_drew, World.heap_drewN] <;> omega) | fail) only [World.cell?_alloc_past, World.cell?_alloc_at, World.frozen?_alloc_past, World.frozen?_alloc_at, World.frozen?_setCell, World.cell?_drew, World.frozen?_drew]) <;> first | (with_reducible assumption) | rfl)))
  replace z_x : w.heap.size < w3.heap.size := by omega
  have hB3 : Below w.heap.size w w3 := by (repeat (first | (with_reducible exact Below.refl _ _) | (with_reducible assumption) | (with_reducible exact Hid.out (by with_reducible assumption)) | (with_reducible refine Below.alloc ?_ ?_ _) | (with_reducible refine Below.setCell ?_ ?_ _) | (with_reducible refine below_drewN ?_ _) | (with_reducible refine Below.drew ?_) | (with_reducible refine below_via (by with_reducible assumption) ?_ ?_) | (first | (with_reducible assumption) | omega | (simp only [World.size_alloc, World.size_setCell, World.size_drew, World.heap_drewN] <;> omega) | (simp <;> omega))))
  go_wp2_with fail
  refine (AT1.out _ hB3).mono ?_
  rintro e w4 ⟨rfl, hb4⟩
  have hz_w4 := hb4.size
  try simp only [World.size_alloc, World.size_setCell] at hz_w4
  replace c_x0 : w4.cell? ⟨w.heap.size, 0, none⟩ = some (.int .i64 l) := (hb4.cell (p := ⟨w.heap.size, 0, none⟩) (by (first | (with_reducible assumption) | omega | (simp only [World.size_alloc, World.size_setCell, World.size_drew, World.heap_drewN] <;> omega) | (simp <;> omega)))).trans (by (first | (with_reducible assumption) | ((try simp (disch := first | omega | (simp only [World.size_alloc, World.size_setCell, World.size_drew, World.heap_drewN] <;> omega) | fail) only [World.cell?_alloc_past, World.cell?_alloc_at, World.frozen?_alloc_past, World.frozen?_alloc_at, World.frozen?_setCell, World.cell?_drew, World.frozen?_drew]) <;> first | (with_reducible assumption) | rfl)))
  replace c_x1 : w4.cell? ⟨w.heap.size, 1, none⟩ = some (.slice ma n1 mc) := (hb4.cell (p := ⟨w.heap.size, 1, none⟩) (by (first | (with_reducible assumption) | omega | (simp only [World.size_alloc, World.size_setCell, World.size_drew, World.heap_drewN] <;> omega) | (simp <;> omega)))).trans (by (first | (with_reducible assumption) | ((try simp (disch := first | omega | (simp only [World.size_alloc, World.size_setCell, World.size_drew, World.heap_drewN] <;> omega) | fail) only [World.cell?_alloc_past, World.cell?_alloc_at, World.frozen?_alloc_past, World.frozen?_alloc_at, World.frozen?_setCell, World.cell?_drew, World.frozen?_drew]) <;> first | (with_reducible assumption) | rfl)))
  replace c_x2 : w4.cell? ⟨w.heap.size, 2, none⟩ = some (.slice ca n2 cc) := (hb4.cell (p := ⟨w.heap.size, 2, none⟩) (by (first | (with_reducible assumption) | omega | (simp only [World.size_alloc, World.size_setCell, World.size_drew, World.heap_drewN] <;> omega) | (simp <;> omega)))).trans (by (first | (with_reducible assumption) | ((try simp (disch := first | omega | (simp only [World.size_alloc, World.size_setCell, World.size_drew, World.heap_drewN] <;> omega) | fail) only [World.cell?_alloc_past, World.cell?_alloc_at, World.frozen?_alloc_past, World.frozen?_alloc_at, World.frozen?_setCell, World.cell?_drew, World.frozen?_drew]) <;> first | (with_reducible assumption) | rfl)))
  replace z_x : w.heap.size < w4.heap.size := by omega
  have hB4 : Below w.heap.size w w4 := by (repeat (first | (with_reducible exact Below.refl _ _) | (with_reducible assumption) | (with_reducible exact Hid.out (by with_reducible assumption)) | (with_reducible refine Below.alloc ?_ ?_ _) | (with_reducible refine Below.setCell ?_ ?_ _) | (with_reducible refine below_drewN ?_ _) | (with_reducible refine Below.drew ?_) | (with_reducible refine below_via (by with_reducible assumption) ?_ ?_) | (first | (with_reducible assumption) | omega | (simp only [World.size_alloc, World.size_setCell, World.size_drew, World.heap_drewN] <;> omega) | (simp <;> omega))))
  go_wp2_with fail
  refine (SZ.out _).mono ?_
  rintro e w' ⟨rfl, rfl⟩
  go_wp2
  go_loopg [9, 10, 11] F (fun gk a b c wr => ∃ i : Nat, i + gk = F ∧ a = .int .i64 (g 1 - cntL (lv.take i)) ∧ b = .int .i64 (lastK (lv.take i) 0) ∧ c = .int .i64 ((F : Int) + i) ∧ Hid (Below w4.heap.size w4 wr))
  case atStart => exact ⟨0, by omega, by simp [cntL], rfl, by go_num, Lib.hid (Below.refl _ _)⟩
  case round =>
    obtain ⟨i, hk, rfl, rfl, rfl, HBr⟩ := hrel
    have hzr := HBr.out.size
    by_cases hlt : i < F
    · have hbd := HBD.out i hlt
      have hgt := HG.out i hlt
      have g0 : decide ((F : Int) + i ≤ N) = true := by have := HNF.out; simp; omega
      have HC1 : Hid (cntL (lv.take (i + 1)) = cntL (lv.take i) + g (F + i)) := Lib.hid (by rw [hgt, cntL_append, cntL_cons]; simp [cntL])
      have HC2 : Hid (lastK (lv.take (i + 1)) 0 = if 0 < g (F + i) then f (F + i) else lastK (lv.take i) 0) := Lib.hid (by rw [hgt, lastK_snoc])
      have hz_wr := HBr.out.size
      try simp only [World.size_alloc, World.size_setCell] at hz_wr
      replace c_x0 : wr.cell? ⟨w.heap.size, 0, none⟩ = some (.int .i64 l) := (HBr.out.cell (p := ⟨w.heap.size, 0, none⟩) (by (first | (with_reducible assumption) | omega | (simp only [World.size_alloc, World.size_setCell, World.size_drew, World.heap_drewN] <;> omega) | (simp <;> omega)))).trans (by (first | (with_reducible assumption) | ((try simp (disch := first | omega | (simp only [World.size_alloc, World.size_setCell, World.size_drew, World.heap_drewN] <;> omega) | fail) only [World.cell?_alloc_past, World.cell?_alloc_at, World.frozen?_alloc_past, World.frozen?_alloc_at, World.frozen?_setCell, World.cell?_drew, World.frozen?_drew]) <;> first | (with_reducible assumption) | rfl)))
      replace c_x1 : wr.cell? ⟨w.heap.size, 1, none⟩ = some (.slice ma n1 mc) := (HBr.out.cell (p := ⟨w.heap.size, 1, none⟩) (by (first | (with_reducible assumption) | omega | (simp only [World.size_alloc, World.size_setCell, World.size_drew, World.heap_drewN] <;> omega) | (simp <;> omega)))).trans (by (first | (with_reducible assumption) | ((try simp (disch := first | omega | (simp only [World.size_alloc, World.size_setCell, World.size_drew, World.heap_drewN] <;> omega) | fail) only [World.cell?_alloc_past, World.cell?_alloc_at, World.frozen?_alloc_past, World.frozen?_alloc_at, World.frozen?_setCell, World.cell?_drew, World.frozen?_drew]) <;> first | (with_reducible assumption) | rfl)))
      replace c_x2 : wr.cell? ⟨w.heap.size, 2, none⟩ = some (.slice ca n2 cc) := (HBr.out.cell (p := ⟨w.heap.size, 2, none⟩) (by (first | (with_reducible assumption) | omega | (simp only [World.size_alloc, World.size_setCell, World.size_drew, World.heap_drewN] <;> omega) | (simp <;> omega)))).trans (by (first | (with_reducible assumption) | ((try simp (disch := first | omega | (simp only [World.size_alloc, World.size_setCell, World.size_drew, World.heap_drewN] <;> omega) | fail) only [World.cell?_alloc_past, World.cell?_alloc_at, World.frozen?_alloc_past, World.frozen?_alloc_at, World.frozen?_setCell, World.cell?_drew, World.frozen?_drew]) <;> first | (with_reducible assumption) | rfl)))
      replace z_x : w.heap.size < wr.heap.size := by omega
      have hBr : Below w.heap.size w wr := below_via HBr.out hB4 (by omega)
      have ATn := Lib.hid (fun W hW => AT.out W hW (F + i) (by omega) (by have := HNF.out; omega))
      rw [show ((F + i : Nat) : Int) = (F : Int) + i by omega] at ATn
      have HK := Lib.hid hk
      clear hgt hk
      generalize g (F + i) = G at *
      generalize f (F + i) = X at *
      generalize cntL (lv.take i) = cl at *
      generalize lastK (lv.take i) 0 = lk at *
      have g1 : decide (G < 0) = false := by simp; omega
      have g2 : decide (G > g 1 - cl) = false := by simp; omega
      by_cases hG : 0 < G
      · have g3 : decide (G > 0) = true := by simp; omega
        rw [if_pos hG] at HC2
        go_wp2_with fail
        refine (ATn.out _ hBr).mono ?_
        rintro e w5 ⟨rfl, hb5⟩
        have HB5 := Lib.hid (HBr.out.trans (hb5.mono hzr))
        clear hb5
        go_wp2
        go_roundg (gk - 1)
        case measure => have := HK.out; omega
        case rel => exact ⟨i + 1, by have := HK.out; omega, by rw [HC1.out]; exact congrArg _ (by omega), by rw [HC2.out], congrArg _ (by omega), HB5⟩
      · have g3 : decide (G > 0) = false := by simp; omega
        rw [if_neg hG] at HC2
        go_wp2_with fail
        refine (ATn.out _ hBr).mono ?_
        rintro e w5 ⟨rfl, hb5⟩
        have HB5 := Lib.hid (HBr.out.trans (hb5.mono hzr))
        clear hb5
        go_wp2
        go_roundg (gk - 1)
        case measure => have := HK.out; omega
        case rel => exact ⟨i + 1, by have := HK.out; omega, by rw [HC1.out]; exact congrArg _ (by omega), by rw [HC2.out], congrArg _ (by omega), HB5⟩
    · have hiF : F = i := by omega
      subst hiF
      have g0 : decide ((F : Int) + F ≤ N) = false := by have := HNF.out; simp; omega
      have e1 : lv.take F = lv := List.take_of_length_le (by rw [HLV.out]; exact Nat.le_refl _)
      rw [e1, HCN.out, HLA.out]
      have hBr : Below w.heap.size w wr := below_via HBr.out hB4 (by omega)
      have g5 : (f 1 == f 1) = true := by simp
      clear e1
      go_wp2
      go_ret
      exact ⟨by simp, hBr⟩

theorem small_yes (l : Int) (ma ca : Option Addr) (mc cc n1 n2 : Nat) (h1 : n1 ≤ 600) (h2 : n2 ≤ 600) (w : World) : Calls Try.prog 27 #[ixV l ma n1 mc ca n2 cc] w (AnsB w (.bool true)) := by
  have G := Lib.hid (fun W => Great18_no l ma ca n1 mc n2 cc h1 h2 W)
  clear h1 h2
  go_enter Try.func27, Try.ntmps27
  go_wp2_with fail
  refine (G.out _).mono ?_
  rintro e w1 ⟨rfl, hb1⟩
  have hz_w1 := hb1.size
  try simp only [World.size_alloc, World.size_setCell] at hz_w1
  have hB1 : Below w.heap.size w w1 := by (repeat (first | (with_reducible exact Below.refl _ _) | (with_reducible assumption) | (with_reducible exact Hid.out (by with_reducible assumption)) | (with_reducible refine Below.alloc ?_ ?_ _) | (with_reducible refine Below.setCell ?_ ?_ _) | (with_reducible refine below_drewN ?_ _) | (with_reducible refine Below.drew ?_) | (with_reducible refine below_via (by with_reducible assumption) ?_ ?_) | (first | (with_reducible assumption) | omega | (simp only [World.size_alloc, World.size_setCell, World.size_drew, World.heap_drewN] <;> omega) | (simp <;> omega))))
  go_wp2
  go_ret
  exact ⟨rfl, hB1⟩
theorem small_no (l : Int) (ma ca : Option Addr) (mc cc n1 n2 : Nat) (h : 600 < n1 ∨ 600 < n2) (w : World) : Calls Try.prog 27 #[ixV l ma n1 mc ca n2 cc] w (AnsB w (.bool false)) := by
  have G := Lib.hid (fun W => Great18_yes l ma ca n1 mc n2 cc h W)
  clear h
  go_enter Try.func27, Try.ntmps27
  go_wp2_with fail
  refine (G.out _).mono ?_
  rintro e w1 ⟨rfl, hb1⟩
  have hz_w1 := hb1.size
  try simp only [World.size_alloc, World.size_setCell] at hz_w1
  have hB1 : Below w.heap.size w w1 := by (repeat (first | (with_reducible exact Below.refl _ _) | (with_reducible assumption) | (with_reducible exact Hid.out (by with_reducible assumption)) | (with_reducible refine Below.alloc ?_ ?_ _) | (with_reducible refine Below.setCell ?_ ?_ _) | (with_reducible refine below_drewN ?_ _) | (with_reducible refine Below.drew ?_) | (with_reducible refine below_via (by with_reducible assumption) ?_ ?_) | (first | (with_reducible assumption) | omega | (simp only [World.size_alloc, World.size_setCell, World.size_drew, World.heap_drewN] <;> omega) | (simp <;> omega))))
  go_wp2
  go_ret
  exact ⟨rfl, hB1⟩
theorem IndexSums_great (l : Int) (ma ca : Option Addr) (mc cc n1 n2 : Nat) (h : 600 < n1 ∨ 600 < n2) (w : World) : Calls Try.prog 5 #[ixV l ma n1 mc ca n2 cc] w (AnsB w (.bool true)) := by
  have SM := Lib.hid (fun W => small_no l ma ca mc cc n1 n2 h W)
  have AL := Lib.hid alive_ok
  clear h
  go_enter Try.func5, Try.ntmps5
  go_wp2_with fail
  refine (AL.out _).mono ?_
  rintro e w1 ⟨rfl, hb1⟩
  have hz_w1 := hb1.size
  try simp only [World.size_alloc, World.size_setCell] at hz_w1
  have c_x0 : w1.cell? ⟨w.heap.size, 0, none⟩ = some (.int .i64 l) := (hb1.cell (p := ⟨w.heap.size, 0, none⟩) (by (first | (with_reducible assumption) | omega | (simp only [World.size_alloc, World.size_setCell, World.size_drew, World.heap_drewN] <;> omega) | (simp <;> omega)))).trans (by (first | (with_reducible assumption) | ((try simp (disch := first | omega | (simp only [World.size_alloc, World.size_setCell, World.size_drew, World.heap_drewN] <;> omega) | fail) only [World.cell?_alloc_past, World.cell?_alloc_at, World.frozen?_alloc_past, World.frozen?_alloc_at, World.frozen?_setCell, World.cell?_drew, World.frozen?_drew]) <;> first | (with_reducible assumption) | rfl)))
  have c_x1 : w1.cell? ⟨w.heap.size, 1, none⟩ = some (.slice ma n1 mc) := (hb1.cell (p := ⟨w.heap.size, 1, none⟩) (by (first | (with_reducible assumption) | omega | (simp only [World.size_alloc, World.size_setCell, World.size_drew, World.heap_drewN] <;> omega) | (simp <;> omega)))).trans (by (first | (with_reducible assumption) | ((try simp (disch := first | omega | (simp only [World.size_alloc, World.size_setCell, World.size_drew, World.heap_drewN] <;> omega) | fail) only [World.cell?_alloc_past, World.cell?_alloc_at, World.frozen?_alloc_past, World.frozen?_alloc_at, World.frozen?_setCell, World.cell?_drew, World.frozen?_drew]) <;> first | (with_reducible assumption) | rfl)))
  have c_x2 : w1.cell? ⟨w.heap.size, 2, none⟩ = some (.slice ca n2 cc) := (hb1.cell (p := ⟨w.heap.size, 2, none⟩) (by (first | (with_reducible assumption) | omega | (simp only [World.size_alloc, World.size_setCell, World.size_drew, World.heap_drewN] <;> omega) | (simp <;> omega)))).trans (by (first | (with_reducible assumption) | ((try simp (disch := first | omega | (simp only [World.size_alloc, World.size_setCell, World.size_drew, World.heap_drewN] <;> omega) | fail) only [World.cell?_alloc_past, World.cell?_alloc_at, World.frozen?_alloc_past, World.frozen?_alloc_at, World.frozen?_setCell, World.cell?_drew, World.frozen?_drew]) <;> first | (with_reducible assumption) | rfl)))
  have z_x : w.heap.size < w1.heap.size := by omega
  have hB1 : Below w.heap.size w w1 := by (repeat (first | (with_reducible exact Below.refl _ _) | (with_reducible assumption) | (with_reducible exact Hid.out (by with_reducible assumption)) | (with_reducible refine Below.alloc ?_ ?_ _) | (with_reducible refine Below.setCell ?_ ?_ _) | (with_reducible refine below_drewN ?_ _) | (with_reducible refine Below.drew ?_) | (with_reducible refine below_via (by with_reducible assumption) ?_ ?_) | (first | (with_reducible assumption) | omega | (simp only [World.size_alloc, World.size_setCell, World.size_drew, World.heap_drewN] <;> omega) | (simp <;> omega))))
  go_wp2_with fail
  refine (SM.out _).mono ?_
  rintro e w2 ⟨rfl, hb2⟩
  have hz_w2 := hb2.size
  try simp only [World.size_alloc, World.size_setCell] at hz_w2
  replace c_x0 : w2.cell? ⟨w.heap.size, 0, none⟩ = some (.int .i64 l) := (hb2.cell (p := ⟨w.heap.size, 0, none⟩) (by (first | (with_reducible assumption) | omega | (simp only [World.size_alloc, World.size_setCell, World.size_drew, World.heap_drewN] <;> omega) | (simp <;> omega)))).trans (by (first | (with_reducible assumption) | ((try simp (disch := first | omega | (simp only [World.size_alloc, World.size_setCell, World.size_drew, World.heap_drewN] <;> omega) | fail) only [World.cell?_alloc_past, World.cell?_alloc_at, World.frozen?_alloc_past, World.frozen?_alloc_at, World.frozen?_setCell, World.cell?_drew, World.frozen?_drew]) <;> first | (with_reducible assumption) | rfl)))
  replace c_x1 : w2.cell? ⟨w.heap.size, 1, none⟩ = some (.slice ma n1 mc) := (hb2.cell (p := ⟨w.heap.size, 1, none⟩) (by (first | (with_reducible assumption) | omega | (simp only [World.size_alloc, World.size_setCell, World.size_drew, World.heap_drewN] <;> omega) | (simp <;> omega)))).trans (by (first | (with_reducible assumption) | ((try simp (disch := first | omega | (simp only [World.size_alloc, World.size_setCell, World.size_drew, World.heap_drewN] <;> omega) | fail) only [World.cell?_alloc_past, World.cell?_alloc_at, World.frozen?_alloc_past, World.frozen?_alloc_at, World.frozen?_setCell, World.cell?_drew, World.frozen?_drew]) <;> first | (with_reducible assumption) | rfl)))
  replace c_x2 : w2.cell? ⟨w.heap.size, 2, none⟩ = some (.slice ca n2 cc) := (hb2.cell (p := ⟨w.heap.size, 2, none⟩) (by (first | (with_reducible assumption) | omega | (simp only [World.size_alloc, World.size_setCell, World.size_drew, World.heap_drewN] <;> omega) | (simp <;> omega)))).trans (by (first | (with_reducible assumption) | ((try simp (disch := first | omega | (simp only [World.size_alloc, World.size_setCell, World.size_drew, World.heap_drewN] <;> omega) | fail) only [World.cell?_alloc_past, World.cell?_alloc_at, World.frozen?_alloc_past, World.frozen?_alloc_at, World.frozen?_setCell, World.cell?_drew, World.frozen?_drew]) <;> first | (with_reducible assumption) | rfl)))
  replace z_x : w.heap.size < w2.heap.size := by omega
  have hB2 : Below w.heap.size w w2 := by (repeat (first | (with_reducible exact Below.refl _ _) | (with_reducible assumption) | (with_reducible exact Hid.out (by with_reducible assumption)) | (with_reducible refine Below.alloc ?_ ?_ _) | (with_reducible refine Below.setCell ?_ ?_ _) | (with_reducible refine below_drewN ?_ _) | (with_reducible refine Below.drew ?_) | (with_reducible refine below_via (by with_reducible assumption) ?_ ?_) | (first | (with_reducible assumption) | omega | (simp only [World.size_alloc, World.size_setCell, World.size_drew, World.heap_drewN] <;> omega) | (simp <;> omega))))
  go_wp2
  go_ret
  exact ⟨rfl, hB2⟩
theorem IndexSums_not (l : Int) (ma ca : Option Addr) (mc cc n1 n2 : Nat) (x : Int) (hx : x ≠ 0) (w : World)
    (SM : Hid (∀ W, Calls Try.prog 27 #[ixV l ma n1 mc ca n2 cc] W (AnsB W (.bool true))))
    (CK : Hid (∀ W, Below w.heap.size w W → Calls Try.prog 14 #[ixV l ma n1 mc ca n2 cc] W (AnsB W (.int .i64 x)))) : Calls Try.prog 5 #[ixV l ma n1 mc ca n2 cc] w (AnsB w (.bool true)) := by
  have AL := Lib.hid alive_ok
  have g1 : (x != 0) = true := by simpa using hx
  clear hx
  go_enter Try.func5, Try.ntmps5
  go_wp2_with fail
  refine (AL.out _).mono ?_
  rintro e w1 ⟨rfl, hb1⟩
  have hz_w1 := hb1.size
  try simp only [World.size_alloc, World.size_setCell] at hz_w1
  have c_x0 : w1.cell? ⟨w.heap.size, 0, none⟩ = some (.int .i64 l) := (hb1.cell (p := ⟨w.heap.size, 0, none⟩) (by (first | (with_reducible assumption) | omega | (simp only [World.size_alloc, World.size_setCell, World.size_drew, World.heap_drewN] <;> omega) | (simp <;> omega)))).trans (by (first | (with_reducible assumption) | ((try simp (disch := first | omega | (simp only [World.size_alloc, World.size_setCell, World.size_drew, World.heap_drewN] <;> omega) | fail) only [World.cell?_alloc_past, World.cell?_alloc_at, World.frozen?_alloc_past, World.frozen?_alloc_at, World.frozen?_setCell, World.cell?_drew, World.frozen?_drew]) <;> first | (with_reducible assumption) | rfl)))
  have c_x1 : w1.cell? ⟨w.heap.size, 1, none⟩ = some (.slice ma n1 mc) := (hb1.cell (p := ⟨w.heap.size, 1, none⟩) (by (first | (with_reducible assumption) | omega | (simp only [World.size_alloc, World.size_setCell, World.size_drew, World.heap_drewN] <;> omega) | (simp <;> omega)))).trans (by (first | (with_reducible assumption) | ((try simp (disch := first | omega | (simp only [World.size_alloc, World.size_setCell, World.size_drew, World.heap_drewN] <;> omega) | fail) only [World.cell?_alloc_past, World.cell?_alloc_at, World.frozen?_alloc_past, World.frozen?_alloc_at, World.frozen?_setCell, World.cell?_drew, World.frozen?_drew]) <;> first | (with_reducible assumption) | rfl)))
  have c_x2 : w1.cell? ⟨w.heap.size, 2, none⟩ = some (.slice ca n2 cc) := (hb1.cell (p := ⟨w.heap.size, 2, none⟩) (by (first | (with_reducible assumption) | omega | (simp only [World.size_alloc, World.size_setCell, World.size_drew, World.heap_drewN] <;> omega) | (simp <;> omega)))).trans (by (first | (with_reducible assumption) | ((try simp (disch := first | omega | (simp only [World.size_alloc, World.size_setCell, World.size_drew, World.heap_drewN] <;> omega) | fail) only [World.cell?_alloc_past, World.cell?_alloc_at, World.frozen?_alloc_past, World.frozen?_alloc_at, World.frozen?_setCell, World.cell?_drew, World.frozen?_drew]) <;> first | (with_reducible assumption) | rfl)))
  have z_x : w.heap.size < w1.heap.size := by omega
  have hB1 : Below w.heap.size w w1 := by (repeat (first | (with_reducible exact Below.refl _ _) | (with_reducible assumption) | (with_reducible exact Hid.out (by with_reducible assumption)) | (with_reducible refine Below.alloc ?_ ?_ _) | (with_reducible refine Below.setCell ?_ ?_ _) | (with_reducible refine below_drewN ?_ _) | (with_reducible refine Below.drew ?_) | (with_reducible refine below_via (by with_reducible assumption) ?_ ?_) | (first | (with_reducible assumption) | omega | (simp only [World.size_alloc, World.size_setCell, World.size_drew, World.heap_drewN] <;> omega) | (simp <;> omega))))
  go_wp2_with fail
  refine (SM.out _).mono ?_
  rintro e w2 ⟨rfl, hb2⟩
  have hz_w2 := hb2.size
  try simp only [World.size_alloc, World.size_setCell] at hz_w2
  replace c_x0 : w2.cell? ⟨w.heap.size, 0, none⟩ = some (.int .i64 l) := (hb2.cell (p := ⟨w.heap.size, 0, none⟩) (by (first | (with_reducible assumption) | omega | (simp only [World.size_alloc, World.size_setCell, World.size_drew, World.heap_drewN] <;> omega) | (simp <;> omega)))).trans (by (first | (with_reducible assumption) | ((try simp (disch := first | omega | (simp only [World.size_alloc, World.size_setCell, World.size_drew, World.heap_drewN] <;> omega) | fail) only [World.cell?_alloc_past, World.cell?_alloc_at, World.frozen?_alloc_past, World.frozen?_alloc_at, World.frozen?_setCell, World.cell?_drew, World.frozen?_drew]) <;> first | (with_reducible assumption) | rfl)))
  replace c_x1 : w2.cell? ⟨w.heap.size, 1, none⟩ = some (.slice ma n1 mc) := (hb2.cell (p := ⟨w.heap.size, 1, none⟩) (by (first | (with_reducible assumption) | omega | (simp only [World.size_alloc, World.size_setCell, World.size_drew, World.heap_drewN] <;> omega) | (simp <;> omega)))).trans (by (first | (with_reducible assumption) | ((try simp (disch := first | omega | (simp only [World.size_alloc, World.size_setCell, World.size_drew, World.heap_drewN] <;> omega) | fail) only [World.cell?_alloc_past, World.cell?_alloc_at, World.frozen?_alloc_past, World.frozen?_alloc_at, World.frozen?_setCell, World.cell?_drew, World.frozen?_drew]) <;> first | (with_reducible assumption) | rfl)))
  replace c_x2 : w2.cell? ⟨w.heap.size, 2, none⟩ = some (.slice ca n2 cc) := (hb2.cell (p := ⟨w.heap.size, 2, none⟩) (by (first | (with_reducible assumption) | omega | (simp only [World.size_alloc, World.size_setCell, World.size_drew, World.heap_drewN] <;> omega) | (simp <;> omega)))).trans (by (first | (with_reducible assumption) | ((try simp (disch := first | omega | (simp only [World.size_alloc, World.size_setCell, World.size_drew, World.heap_drewN] <;> omega) | fail) only [World.cell?_alloc_past, World.cell?_alloc_at, World.frozen?_alloc_past, World.frozen?_alloc_at, World.frozen?_setCell, World.cell?_drew, World.frozen?_drew]) <;> first | (with_reducible assumption) | rfl)))
  replace z_x : w.heap.size < w2.heap.size := by omega
  have hB2 : Below w.heap.size w w2 := by (repeat (first | (with_reducible exact Below.refl _ _) | (with_reducible assumption) | (with_reducible exact Hid.out (by with_reducible assumption)) | (with_reducible refine Below.alloc ?_ ?_ _) | (with_reducible refine Below.setCell ?_ ?_ _) | (with_reducible refine below_drewN ?_ _) | (with_reducible refine Below.drew ?_) | (with_reducible refine below_via (by with_reducible assumption) ?_ ?_) | (first | (with_reducible assumption) | omega | (simp only [World.size_alloc, World.size_setCell, World.size_drew, World.heap_drewN] <;> omega) | (simp <;> omega))))
  go_wp2_with fail
  refine (CK.out _ hB2).mono ?_
  rintro e w3 ⟨rfl, hb3⟩
  have hz_w3 := hb3.size
  try simp only [World.size_alloc, World.size_setCell] at hz_w3
  replace c_x0 : w3.cell? ⟨w.heap.size, 0, none⟩ = some (.int .i64 l) := (hb3.cell (p := ⟨w.heap.size, 0, none⟩) (by (first | (with_reducible assumption) | omega | (simp only [World.size_alloc, World.size_setCell, World.size_drew, World.heap_drewN] <;> omega) | (simp <;> omega)))).trans (by (first | (with_reducible assumption) | ((try simp (disch := first | omega | (simp only [World.size_alloc, World.size_setCell, World.size_drew, World.heap_drewN] <;> omega) | fail) only [World.cell?_alloc_past, World.cell?_alloc_at, World.frozen?_alloc_past, World.frozen?_alloc_at, World.frozen?_setCell, World.cell?_drew, World.frozen?_drew]) <;> first | (with_reducible assumption) | rfl)))
  replace c_x1 : w3.cell? ⟨w.heap.size, 1, none⟩ = some (.slice ma n1 mc) := (hb3.cell (p := ⟨w.heap.size, 1, none⟩) (by (first | (with_reducible assumption) | omega | (simp only [World.size_alloc, World.size_setCell, World.size_drew, World.heap_drewN] <;> omega) | (simp <;> omega)))).trans (by (first | (with_reducible assumption) | ((try simp (disch := first | omega | (simp only [World.size_alloc, World.size_setCell, World.size_drew, World.heap_drewN] <;> omega) | fail) only [World.cell?_alloc_past, World.cell?_alloc_at, World.frozen?_alloc_past, World.frozen?_alloc_at, World.frozen?_setCell, World.cell?_drew, World.frozen?_drew]) <;> first | (with_reducible assumption) | rfl)))
  replace c_x2 : w3.cell? ⟨w.heap.size, 2, none⟩ = some (.slice ca n2 cc) := (hb3.cell (p := ⟨w.heap.size, 2, none⟩) (by (first | (with_reducible assumption) | omega | (simp only [World.size_alloc, World.size_setCell, World.size_drew, World.heap_drewN] <;> omega) | (simp <;> omega)))).trans (by (first | (with_reducible assumption) | ((try simp (disch := first | omega | (simp only [World.size_alloc, World.size_setCell, World.size_drew, World.heap_drewN] <;> omega) | fail) only [World.cell?_alloc_past, World.cell?_alloc_at, World.frozen?_alloc_past, World.frozen?_alloc_at, World.frozen?_setCell, World.cell?_drew, World.frozen?_drew]) <;> first | (with_reducible assumption) | rfl)))
  replace z_x : w.heap.size < w3.heap.size := by omega
  have hB3 : Below w.heap.size w w3 := by (repeat (first | (with_reducible exact Below.refl _ _) | (with_reducible assumption) | (with_reducible exact Hid.out (by with_reducible assumption)) | (with_reducible refine Below.alloc ?_ ?_ _) | (with_reducible refine Below.setCell ?_ ?_ _) | (with_reducible refine below_drewN ?_ _) | (with_reducible refine Below.drew ?_) | (with_reducible refine below_via (by with_reducible assumption) ?_ ?_) | (first | (with_reducible assumption) | omega | (simp only [World.size_alloc, World.size_setCell, World.size_drew, World.heap_drewN] <;> omega) | (simp <;> omega))))
  go_wp2
  go_ret
  exact ⟨rfl, hB3⟩

theorem IndexSums_walk (w : World) (l : Int) (ma ca : Option Addr) (mc cc : Nat) (ms cs : List Int) (hm : IsRow .i64 w ma ms) (hc : IsRow .i64 w ca cs) (hmn : ma = none → mc = 0) (hcn : ca = none → cc = 0) (hlm : ms.length ≤ maxLen) (hlc : cs.length ≤ maxLen) :
    Calls Try.prog 5 #[ixV l ma ms.length mc ca cs.length cc] w fun e w' => e = .returned (.bool true) ∧ Below w.heap.size w w' := by
  by_cases h : ms.length ≤ 600 ∧ cs.length ≤ 600
  · have SM := Lib.hid (fun W => small_yes l ma ca mc cc ms.length cs.length h.1 h.2 W)
    have CK := Lib.hid (fun W (hb : Below w.heap.size w W) => Check_ix l ma ca mc cc ms cs W (hm.below hb) (hc.below hb))
    by_cases hmay : ixMay l ms cs = true
    · have hE : ixE l ms cs = 0 := if_pos hmay
      rw [hE] at CK
      have hmay2 := hmay
      simp only [ixMay, Bool.and_eq_true, decide_eq_true_eq] at hmay2
      obtain ⟨⟨h1, h2, -, -⟩, hall⟩ := hmay2
      obtain ⟨L, hL⟩ : ∃ L, l.toNat = L := ⟨_, rfl⟩
      obtain ⟨D, hD⟩ : ∃ D, L = D + 1 := ⟨L - 1, by omega⟩
      have hp := Nat.two_pow_pos D
      have hp2 : 2 ^ L = 2 * 2 ^ D := by rw [hD, Nat.pow_succ]; omega
      have hp3 : 2 ^ D ≤ 2 ^ 13 := Nat.pow_le_pow_right (by omega) (by omega)
      rw [hL] at hall
      have hgd := good_root (by omega : 1 ≤ L) hall
      rw [show L - 1 = D by omega] at hgd
      have hlen := lvs_length (f := tlF L ms) (g := tlF L cs) D 1
      have hcnt := hgd.cnt
      have hown := own_facts hgd.own
      have hE0 : ∀ n : Nat, 1 ≤ n → n ≤ 2 ^ L - 1 → atE l ms cs n = 0 := fun n a b => by
        rw [atE, if_pos hmay, hL, if_pos]
        refine ⟨by omega, ?_⟩
        have : (2 : Int) ^ L = ((2 ^ L : Nat) : Int) := by push_cast; rfl
        omega
      have hget : ∀ i, i < 2 ^ D → (lvs (tlF L ms) (tlF L cs) D 1).take (i + 1) = (lvs (tlF L ms) (tlF L cs) D 1).take i ++ [(tlF L ms (2 ^ D + i), tlF L cs (2 ^ D + i))] := fun i hi => by
        have := lvs_get (f := tlF L ms) (g := tlF L cs) D 1 i hi
        rw [Nat.one_mul] at this
        rw [List.take_add_one, this]
        rfl
      refine IndexSums_may l ma ca mc cc ms.length cs.length (2 ^ L - 1) (2 ^ D) (by omega) (by omega) (by omega) (tlF L ms) (tlF L cs) (lvs (tlF L ms) (tlF L cs) D 1) hlen hget ?_ hcnt ?_ w (Lib.hid alive_ok) SM CK (Lib.hid fun W hb n a b => ?_) (Lib.hid fun W => ?_)
      · intro i hi
        have hs := congrArg cntL (List.take_append_drop i (lvs (tlF L ms) (tlF L cs) D 1))
        rw [cntL_append, hcnt] at hs
        have hg := lvs_get (f := tlF L ms) (g := tlF L cs) D 1 i hi
        rw [Nat.one_mul] at hg
        have hd : (lvs (tlF L ms) (tlF L cs) D 1).drop i = (tlF L ms (2 ^ D + i), tlF L cs (2 ^ D + i)) :: (lvs (tlF L ms) (tlF L cs) D 1).drop (i + 1) := by
          rw [List.drop_eq_getElem_cons (by omega)]
          congr 1
          rw [List.getElem?_eq_getElem (by omega)] at hg
          exact Option.some.inj hg
        have nn : ∀ a : List (Int × Int), (∀ p ∈ a, 0 ≤ p.2) → 0 ≤ cntL a := by
          intro a
          induction a with
          | nil => intro _; simp [cntL]
          | cons p r ih => intro hh; rw [cntL_cons]; have := hh p (by simp); have := ih (fun q hq => hh q (by simp [hq])); omega
        have n1 := nn ((lvs (tlF L ms) (tlF L cs) D 1).take i) (fun p hp => hgd.nonneg p (List.mem_of_mem_take hp))
        have n2 := nn ((lvs (tlF L ms) (tlF L cs) D 1).drop (i + 1)) (fun p hp => hgd.nonneg p (List.mem_of_mem_drop hp))
        have n3 : 0 ≤ tlF L cs (2 ^ D + i) := hgd.nonneg _ (List.mem_of_getElem? hg)
        rw [hd, cntL_cons] at hs
        dsimp only at hs
        omega
      · rw [hgd.last]
        split
        · rfl
        · exact (hown.2.2 (by omega)).symm
      · have := At_ix l n ma ca mc cc ms cs W (hm.below hb) (hc.below hb)
        rw [atM, atC, hE0 n a b, if_pos rfl, if_pos rfl, hL, Int.toNat_natCast] at this
        exact this
      · have := Size_ok l h1 h2 W
        rw [hL] at this
        have e : (2 : Int) ^ L - 1 = ((2 ^ L - 1 : Nat) : Int) := by rw [Int.natCast_sub (by omega)]; push_cast; rfl
        rw [e] at this
        exact this
    · have hE : ixE l ms cs = 8 := if_neg hmay
      rw [hE] at CK
      exact IndexSums_not l ma ca mc cc ms.length cs.length 8 (by decide) w SM CK
  · exact IndexSums_great l ma ca mc cc ms.length cs.length (by omega) w
end Go.Proofs.Ytelckhfmchnpnaa
