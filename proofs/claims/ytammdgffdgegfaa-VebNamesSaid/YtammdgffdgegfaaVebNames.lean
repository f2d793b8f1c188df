/-
  VebNames: the error, and more examples.
  No condition.
-/
import Derived.Test.YtammdgffdgegfaaVebAlive
namespace Go.Proofs.Ytammdgffdgegfaa
open Go.RowKit Go.Shelf
set_option linter.unusedVariables false
set_option linter.unusedSimpArgs false

theorem Place_at (l n a e : Int) (h1 : vpR l n = a) (h2 : ndE l n = e) (w : World) : Calls Try.prog 13 #[.int .i64 l, .int .i64 n] w (Gives w (.tuple #[.int .i64 a, .int .i64 e])) := by
  subst h1 h2; exact Place_any l n w
theorem Node_at (l n a e : Int) (h1 : vnR l n = a) (h2 : vnE l n = e) (w : World) : Calls Try.prog 15 #[.int .i64 l, .int .i64 n] w (Gives w (.tuple #[.int .i64 a, .int .i64 e])) := by
  subst h1 h2; exact Node_any l n w
theorem Near_at (l n r a e : Int) (h1 : nrR l n r = a) (h2 : nrE l n r = e) (w : World) : Calls Try.prog 21 #[.int .i64 l, .int .i64 n, .int .i64 r] w (Gives w (.tuple #[.int .i64 a, .int .i64 e])) := by
  subst h1 h2; exact Near_any l n r w
theorem nrR_at {L n run : Nat} (h : nrE L n run = 0) (hn : n < 2 ^ 14) : nrR L n run = (nearF L n run : Nat) := by
  rw [nrR, h, if_pos rfl]
  simp only [Int.toNat_natCast]
  rw [nearF_eq hn]
theorem plc_1 : plc 1 = [0] := by
  have h := plc_get (L := 1) (n := 1) (by decide) (by decide) (by decide)
  have hl : (plc 1).length = 1 := by rw [plc, fillTo_length]
  match hp : plc 1, hl with
  | [x], _ =>
    rw [hp] at h
    rw [vposF_eq] at h
    have : (vposF 1 1 : Nat) = 0 := by decide
    rw [this] at h
    simpa using h

set_option maxRecDepth 100000 in
set_option maxHeartbeats 4000000 in
theorem VebNames_walk (w : World) : Calls Try.prog 8 #[] w fun e w' => e = .returned (.bool true) ∧ Below w.heap.size w w' := by
  have p33 : vpR 3 3 = 4 := by rw [vpR, show ndE 3 3 = 0 by decide, if_pos rfl, vposF_eq]; decide
  have p38 : vpR 3 8 = 0 := by rw [vpR, show ndE 3 8 = 2 by decide]; rfl
  have n31 : vnR 3 (-1) = 0 := by rw [vnR, show vnE 3 (-1) = 2 by decide]; rfl
  have a372 : nrR 3 7 2 = 3 := by rw [show (3 : Int) = ((3 : Nat) : Int) from rfl, show (7 : Int) = ((7 : Nat) : Int) from rfl, show (2 : Int) = ((2 : Nat) : Int) from rfl, nrR_at (by decide) (by decide)]; decide
  have a371 : nrR 3 7 100 = 1 := by rw [show (3 : Int) = ((3 : Nat) : Int) from rfl, show (7 : Int) = ((7 : Nat) : Int) from rfl, show (100 : Int) = ((100 : Nat) : Int) from rfl, nrR_at (by decide) (by decide)]; decide
  have a370 : nrR 3 7 0 = 0 := by rw [nrR, show nrE 3 7 0 = 2 by decide]; rfl
  have T := fun w => Table_ok 1 1 rfl (by decide) (by decide) w
  rw [plc_1] at T
  have T := Lib.hid T
  have P1 := Lib.hid (fun w => Place_at 3 3 4 0 p33 (by decide) w)
  have P2 := Lib.hid (fun w => Place_at 3 8 0 2 p38 (by decide) w)
  have P3 := Lib.hid (fun w => Node_at 3 (-1) 0 2 n31 (by decide) w)
  have P4 := Lib.hid (fun w => Near_at 3 7 2 3 0 a372 (by decide) w)
  have P5 := Lib.hid (fun w => Near_at 3 7 100 1 0 a371 (by decide) w)
  have P6 := Lib.hid (fun w => Near_at 3 7 0 0 2 a370 (by decide) w)
  clear p33 p38 n31 a372 a371 a370
  go_enter Try.func8, Try.ntmps8
  go_wp2_with fail
  refine (P1.out _).mono ?_
  rintro e w1 ⟨rfl, hb1⟩
  have hz_w1 := hb1.size
  try simp only [World.size_alloc, World.size_setCell] at hz_w1
  go_wp2_with fail
  refine (P2.out _).mono ?_
  rintro e w2 ⟨rfl, hb2⟩
  have hz_w2 := hb2.size
  try simp only [World.size_alloc, World.size_setCell] at hz_w2
  go_wp2_with fail
  refine (P3.out _).mono ?_
  rintro e w3 ⟨rfl, hb3⟩
  have hz_w3 := hb3.size
  try simp only [World.size_alloc, World.size_setCell] at hz_w3
  go_wp2_with fail
  refine (T.out _).mono ?_
  rintro e w4 ⟨v4, rfl, ho4, hb4⟩
  have hz_w4 := hb4.size
  try simp only [World.size_alloc, World.size_setCell] at hz_w4
  obtain ⟨a4, c4, rfl, hi4, -⟩ := ints_of_owns ho4
  obtain ⟨b, o, x, rfl, hx, hc, hbl⟩ := hi4.get (k := 0) (by decide)
  have hx := hx.out
  simp only [List.getD_cons_zero] at hx
  subst hx
  rw [Nat.add_zero] at hc
  clear ho4 hi4
  have hB4 : Below w.heap.size w w4 := by (repeat (first | (with_reducible exact Below.refl _ _) | (with_reducible assumption) | (with_reducible exact Hid.out (by with_reducible assumption)) | (with_reducible refine Below.alloc ?_ ?_ _) | (with_reducible refine Below.setCell ?_ ?_ _) | (with_reducible refine below_drewN ?_ _) | (with_reducible refine Below.drew ?_) | (with_reducible refine below_via (by with_reducible assumption) ?_ ?_) | (first | (with_reducible assumption) | omega | (simp only [World.size_alloc, World.size_setCell, World.size_drew, World.heap_drewN] <;> omega) | (simp <;> omega))))
  go_wp2_with fail
  refine (Table_err 15 (by decide) _).mono ?_
  rintro e w' ⟨rfl, rfl⟩
  go_wp2_with fail
  refine (P4.out _).mono ?_
  rintro e w5 ⟨rfl, hb5⟩
  have hz_w5 := hb5.size
  try simp only [World.size_alloc, World.size_setCell] at hz_w5
  go_wp2_with fail
  refine (P5.out _).mono ?_
  rintro e w6 ⟨rfl, hb6⟩
  have hz_w6 := hb6.size
  try simp only [World.size_alloc, World.size_setCell] at hz_w6
  go_wp2_with fail
  refine (P6.out _).mono ?_
  rintro e w7 ⟨rfl, hb7⟩
  have hz_w7 := hb7.size
  try simp only [World.size_alloc, World.size_setCell] at hz_w7
  have hB7 : Below w.heap.size w w7 := by (repeat (first | (with_reducible exact Below.refl _ _) | (with_reducible assumption) | (with_reducible exact Hid.out (by with_reducible assumption)) | (with_reducible refine Below.alloc ?_ ?_ _) | (with_reducible refine Below.setCell ?_ ?_ _) | (with_reducible refine below_drewN ?_ _) | (with_reducible refine Below.drew ?_) | (with_reducible refine below_via (by with_reducible assumption) ?_ ?_) | (first | (with_reducible assumption) | omega | (simp only [World.size_alloc, World.size_setCell, World.size_drew, World.heap_drewN] <;> omega) | (simp <;> omega))))
  go_wp2_with fail
  refine (alive17 _).mono ?_
  rintro e w8 ⟨rfl, hb8⟩
  have hz_w8 := hb8.size
  try simp only [World.size_alloc, World.size_setCell] at hz_w8
  have hB8 : Below w.heap.size w w8 := by (repeat (first | (with_reducible exact Below.refl _ _) | (with_reducible assumption) | (with_reducible exact Hid.out (by with_reducible assumption)) | (with_reducible refine Below.alloc ?_ ?_ _) | (with_reducible refine Below.setCell ?_ ?_ _) | (with_reducible refine below_drewN ?_ _) | (with_reducible refine Below.drew ?_) | (with_reducible refine below_via (by with_reducible assumption) ?_ ?_) | (first | (with_reducible assumption) | omega | (simp only [World.size_alloc, World.size_setCell, World.size_drew, World.heap_drewN] <;> omega) | (simp <;> omega))))
  have hb48 : Below w4.heap.size w4 w8 := ((hb5.trans (hb6.mono (by omega))).trans (hb7.mono (by omega))).trans (hb8.mono (by omega))
  have hc8 := (hb48.cell (p := ⟨b, o, none⟩) hbl).trans hc
  clear hc
  go_wp2_with fail
  refine (stands_true 1 _ 1 [1] _ (lit_ints w8 [1] _) (by decide) whole1).mono ?_
  rintro e w9 ⟨rfl, hb9⟩
  have hc9 := (hb9.cell (p := ⟨b, o, none⟩) (by simp; omega)).trans ((World.cell?_alloc_past _ _ _ (by show b < w8.heap.size; omega)).trans hc8)
  have hB9 : Below w.heap.size w w9 := (hB8.alloc (by omega) _).trans (hb9.mono (by simp; omega))
  clear hc8
  go_wp2
  go_ret
  exact ⟨rfl, hB9⟩
end Go.Proofs.Ytammdgffdgegfaa
