/- Merged: DownFns, DownWayH, DownWayN, DownHome. -/
import Derived.Test.YtfmoghjddfjfmaaDoorDwnP
import Derived.Test.YtfmoghjddfjfmaaDoorIdxMy
import Derived.Test.YtfmoghjddfjfmaaDoorIdxCk
import Derived.Test.YtfmoghjddfjfmaaDoorHeapUF
import Derived.Test.YtfmoghjddfjfmaaDoorVebPlace
namespace Go.Proofs.YtfmoghjddfjfmaaDoor
set_option linter.unusedVariables false
set_option linter.unusedSimpArgs false
section
open Go.RowKit

theorem Home1_ok (m c s key : Int) (b : Nat) (w : World) (hb : w.cell? ⟨b, 0, none⟩ = some (.int .i64 key)) :
    Calls Tryd.prog 22 #[.int .i64 m, .int .i64 c, .int .i64 s, .pointer (some ⟨b, 0, none⟩)] w fun e w' => e = .returned (.bool (decide (srv key m c))) ∧ w = w' := by
  by_cases h : 0 < c
  · have e : decide (srv key m c) = decide (key ≤ m) := by simp [srv, h]
    rw [e]
    go_enter Tryd.func22, Tryd.ntmps22
    go_wp2
    go_ret
    exact ⟨by simp, rfl⟩
  · have e : decide (srv key m c) = false := by simp [srv, h]
    rw [e]
    go_enter Tryd.func22, Tryd.ntmps22
    go_wp2
    go_ret
    exact ⟨by simp, rfl⟩
theorem Nth1_ok (m c s k : Int) (b : Nat) (w : World) (hb : w.cell? ⟨b, 0, none⟩ = some (.int .i64 k)) (h0 : 0 ≤ k - s) (h1 : k - s ≤ 9223372036854775807) :
    Calls Tryd.prog 53 #[.int .i64 m, .int .i64 c, .int .i64 s, .pointer (some ⟨b, 0, none⟩)] w fun e w' => e = .returned (.bool (decide (k - s < c))) ∧ w = w' := by
  go_enter Tryd.func53, Tryd.ntmps53
  go_wp2
  go_ret
  exact ⟨rfl, rfl⟩
end

section
open Go.RowKit

/-- what holds at each turn of the way -/
def WayHome (l : Int) (ma ca : Option Addr) (mc cc N bk F D : Nat) (P : Nat → Nat → Int → Prop) (w : World) (d : Nat) (a' : Act) (w' : World) : Prop :=
  ∃ (nn : Nat) (s : Int), (∃ u : Nat → Value, a' = { tmps := #[ixV l ma N mc ca N cc, (.func (.func 22) #[] #[.pointer (some ⟨bk, 0, none⟩)]), .pointer (some ⟨w.heap.size, 0, none⟩), u 3, u 4, .int .i64 s, .int .i64 nn, .int .i64 F, u 8, u 9, u 10, u 11, u 12, u 13, u 14, u 15, u 16, u 17, u 18, u 19, u 20, u 21, u 22, u 23, u 24, u 25, u 26, u 27, u 28, u 29, u 30, u 31, u 32, u 33, u 34, u 35, u 36, u 37, u 38, u 39, u 40, u 41, u 42, u 43, u 44, u 45, u 46, u 47, u 48, u 49, u 50, u 51, u 52, u 53, u 54, u 55, u 56], defers := [] }) ∧ w'.cell? ⟨w.heap.size, 0, none⟩ = some (.int .i64 l) ∧ w'.cell? ⟨w.heap.size, 1, none⟩ = some (.slice ma N mc) ∧ w'.cell? ⟨w.heap.size, 2, none⟩ = some (.slice ca N cc) ∧ w.heap.size < w'.heap.size ∧ Hid (Below w.heap.size w w') ∧ d ≤ D ∧ 2 ^ D ≤ nn * 2 ^ d ∧ (nn + 1) * 2 ^ d ≤ 2 * 2 ^ D ∧ Hid (P d nn s)

set_option maxRecDepth 100000 in
set_option maxHeartbeats 1000000 in
theorem wayHome_ok (L N D F : Nat) (l : Int) (hl : l = L) (h1 : 1 ≤ L) (h2 : L ≤ 14) (hN : N + 1 = 2 ^ L) (hD : D + 1 = L) (hF : 2 ^ D = F) (ma ca : Option Addr) (mc cc : Nat) (ms cs : List Int) (hlm : ms.length = N) (hlc : cs.length = N) (w : World)
    (hm : IsRow .i64 w ma ms) (hc : IsRow .i64 w ca cs) (key : Int) (bk : Nat) (hk : w.cell? ⟨bk, 0, none⟩ = some (.int .i64 key)) (P : Nat → Nat → Int → Prop) (T : Int → Int → Int → Bool) (hP : P D 1 0)
    (hst : ∀ d n s, P (d + 1) n s → (0 ≤ s ∧ s ≤ 65536 ∧ 0 ≤ s + tlF L cs (2 * n) ∧ s + tlF L cs (2 * n) ≤ 65536) ∧ if T (tlF L ms (2 * n)) (tlF L cs (2 * n)) s = true then P d (2 * n) s else P d (2 * n + 1) (s + tlF L cs (2 * n)))
    (hcl : ∀ d n s W, P (d + 1) n s → W.cell? ⟨bk, 0, none⟩ = some (.int .i64 key) → Calls Tryd.prog 22 #[.int .i64 (tlF L ms (2 * n)), .int .i64 (tlF L cs (2 * n)), .int .i64 s, .pointer (some ⟨bk, 0, none⟩)] W fun e w' => e = .returned (.bool (T (tlF L ms (2 * n)) (tlF L cs (2 * n)) s)) ∧ W = w') :
    Calls Tryd.prog 21 #[ixV l ma N mc ca N cc, .func (.func 22) #[] #[.pointer (some ⟨bk, 0, none⟩)]] w fun e w' => ∃ (n : Nat) (s : Int), e = .returned (.tuple #[.int .i64 ((n : Int) - F), .int .i64 s]) ∧ P 0 n s ∧ F ≤ n ∧ n < 2 * F ∧ Below w.heap.size w w' := by
  have e0 : lfE l 0 = 0 := by
    have hp := pow_bd (l.toNat - 1) (by omega)
    have h : 1 ≤ l ∧ l ≤ 14 := by omega
    unfold lfE
    rw [if_pos ⟨h, Int.le_refl 0, by omega⟩]
  have e1 : lfR l 0 = F := by
    unfold lfR
    rw [if_pos e0, show l.toNat - 1 = D by omega, ← hF]
    push_cast
    omega
  have hFb : F ≤ 8192 := by rw [← hF]; exact Nat.pow_le_pow_right (by omega) (by omega : D ≤ 13)
  have hF0 : 0 < F := by rw [← hF]; exact Nat.two_pow_pos D
  have LF := Lib.hid (Leaf_any l 0)
  rw [e0, e1] at LF
  have PL := Lib.hid (Place_any l)
  have HL := Lib.hid hl
  have HST := Lib.hid hst
  have HCL := Lib.hid hcl
  have HP := Lib.hid hP
  have HM := Lib.hid hm
  have HC := Lib.hid hc
  have HLM := Lib.hid hlm
  have HLC := Lib.hid hlc
  clear e0 e1 hl hst hcl hP hm hc hlm hlc
  go_enter Tryd.func21, Tryd.ntmps21
  go_wp2
  refine wp_scope_loop 0 (WayHome l ma ca mc cc N bk F D P w) rfl ?_ ?_
  · rintro d a wo ⟨nn, s, ⟨u, rfl⟩, c0, c1, c2, hz, HB, hd, hb1, hb2, HPd⟩ H hH
    rw [hF] at hb1 hb2
    cases d with
    | zero =>
      rw [Nat.pow_zero, Nat.mul_one] at hb1 hb2
      have hwn : IntKind.i64.wrap ((nn : Int) - (F : Int)) = (nn : Int) - (F : Int) := IntWalk.i64_in _ (by omega)
      go_wp2
      simp only [Exit.jump]
      go_ret2
      exact ⟨nn, s, rfl, HPd.out, by omega, by omega, HB.out⟩
    | succ d =>
      have hR := Nat.two_pow_pos d
      have hnF : nn < F := by
        have h9 : (nn + 1) * 2 ^ (d + 1) = (nn + 1) * 2 ^ d * 2 := by rw [Nat.pow_succ, Nat.mul_assoc]
        have h8 : (nn + 1) * 1 ≤ (nn + 1) * 2 ^ d := Nat.mul_le_mul_left _ hR
        omega
      have hn1 : 1 ≤ nn := by
        rcases Nat.eq_zero_or_pos nn with e | e
        · rw [e, Nat.zero_mul] at hb1
          omega
        · exact e
      have hll := HL.out
      have hnd : ndE l (2 * (nn : Int)) = 0 := by
        refine ndE_ok (by omega) (by omega) (by omega) ?_
        have : (2 : Int) ^ l.toNat = ((2 ^ L : Nat) : Int) := by rw [show l.toNat = L by omega]; push_cast; rfl
        have h8 : 2 ^ L = 2 * F := by rw [← hD, Nat.pow_succ, hF]; omega
        rw [this]
        omega
      obtain ⟨p, hp⟩ : ∃ p : Nat, vpos L (2 * nn) = p := ⟨_, rfl⟩
      have h2n : 2 * nn < 2 ^ L := by rw [← hD, Nat.pow_succ, hF]; omega
      have hpN : p < N := by have := (vpos_lay h1 (by omega : 1 ≤ 2 * nn) h2n).1; omega
      have hvp : vpR l (2 * (nn : Int)) = (p : Int) := by
        unfold vpR
        rw [if_pos hnd, ← hp, show l.toNat = L by omega, show (2 * (nn : Int)).toNat = 2 * nn by omega]
      have P2 := Lib.hid (Place_any l (2 * (nn : Int)))
      rw [hvp, hnd] at P2
      have hpc : (pcF L (2 * nn)).toNat = p := by rw [pcF, if_neg (by omega), plc_get h1 (by omega) h2n, hp]; rfl
      obtain ⟨b1, o1, x1, rfl, hx1, d1, -⟩ := (HM.out.below HB.out).get (i := p) (by have := HLM.out; omega)
      obtain ⟨b2, o2, x2, rfl, hx2, d2, -⟩ := (HC.out.below HB.out).get (i := p) (by have := HLC.out; omega)
      have hf1 : tlF L ms (2 * nn) = x1 := by rw [tlF, if_neg (by omega), hpc]; exact hx1.out
      have hf2 : tlF L cs (2 * nn) = x2 := by rw [tlF, if_neg (by omega), hpc]; exact hx2.out
      have hs := HST.out d nn s HPd.out
      have hc1 := fun W => HCL.out d nn s W HPd.out
      rw [hf1, hf2] at hs hc1
      obtain ⟨⟨hs0, hs1, hs2, hs3⟩, hs⟩ := hs
      have HS := Lib.hid hs
      have HC1 := Lib.hid hc1
      have e1 : nn * 2 ^ (d + 1) = 2 * nn * 2 ^ d := by rw [Nat.pow_succ, Nat.mul_comm 2 nn, Nat.mul_assoc, Nat.mul_comm 2]
      have e2 : (nn + 1) * 2 ^ (d + 1) = (2 * nn + 1 + 1) * 2 ^ d := by rw [Nat.pow_succ, show 2 * nn + 1 + 1 = (nn + 1) * 2 by omega, Nat.mul_assoc, Nat.mul_comm 2]
      have e3 : (2 * nn + 1) * 2 ^ d = 2 * nn * 2 ^ d + 2 ^ d := by rw [Nat.add_mul, Nat.one_mul]
      have e4 : (2 * nn + 1 + 1) * 2 ^ d = 2 * nn * 2 ^ d + 2 ^ d + 2 ^ d := by rw [Nat.add_mul, Nat.one_mul, e3]
      have hR2 : 0 < 2 ^ d := hR
      rw [e1] at hb1
      rw [e2, e4] at hb2
      have HE : Hid ((2 ^ D ≤ 2 * nn * 2 ^ d ∧ (2 * nn + 1) * 2 ^ d ≤ 2 * 2 ^ D) ∧ 2 ^ D ≤ (2 * nn + 1) * 2 ^ d ∧ (2 * nn + 1 + 1) * 2 ^ d ≤ 2 * 2 ^ D) := by
        refine Lib.hid ?_
        rw [e3, e4, hF]
        generalize 2 * nn * 2 ^ d = A at *
        generalize 2 ^ d = R at *
        omega
      clear hR2
      clear hll hvp hnd hp h2n hpc hf1 hf2 hx1 hx2 hs hc1 e1 e2 e3 e4 hb1 hb2 hR
      go_wp2_with (go_at_call 30; refine (P2.out _).mono ?_; rintro e w2 ⟨rfl, hb2⟩)
      have hz2 := hb2.size
      replace c0 := (hb2.cell (p := ⟨w.heap.size, 0, none⟩) hz).trans c0
      replace c1 := (hb2.cell (p := ⟨w.heap.size, 1, none⟩) hz).trans c1
      replace c2 := (hb2.cell (p := ⟨w.heap.size, 2, none⟩) hz).trans c2
      replace d1 := (hb2.cell (World.block_lt_of_cell? _ _ d1)).trans d1
      replace d2 := (hb2.cell (World.block_lt_of_cell? _ _ d2)).trans d2
      have HB2 := Lib.hid (below_via hb2 HB.out (by omega))
      have ck : w2.cell? ⟨bk, 0, none⟩ = some (.int .i64 key) := (HB2.out.cell (World.block_lt_of_cell? _ _ hk)).trans hk
      have H1 := Lib.hid (fun q => Calls.quiet_of_same ((HC1.out (w2.drewN q) ck).mono fun _ _ h => ⟨h.1, h.2.symm⟩))
      obtain ⟨tv, htv⟩ : ∃ tv : Bool, T x1 x2 s = tv := ⟨_, rfl⟩
      rw [htv] at H1
      have HTV := Lib.hid htv
      clear hb2 htv HC1
      go_quiet (exact H1.out _)
      have hz3 : w.heap.size < (w2.drewN nq).heap.size := by simp; omega
      cases tv with
      | true =>
        go_wp2
        refine wp_goto ?_
        obtain ⟨⟨hb1, hb2⟩, hb3, hb4⟩ := HE.out
        refine show (0 = 0 ∧ H _ _) from ⟨rfl, hH d _ _ (by omega) ⟨2 * nn, s, frame_mk _ _ _ ?_, by (first | (with_reducible assumption) | ((simp only [World.frozen?_setCell, World.frozen?_drew, World.frozen?_drewN]) <;> (with_reducible assumption)) | ((repeat (first | (with_reducible assumption) | (with_reducible refine World.cell?_setCell_same _ _ _ (by with_reducible assumption)) | (rw [World.cell?_setCell_other _ _ _ _ (by intro e; simp at e; done)]) | (with_reducible refine cell_setCell_block ?_ ?_) | (rw [World.cell?_drew]) | (rw [World.cell?_drewN]) | (dsimp only; omega))); done) | (first | (with_reducible assumption) | ((try simp (disch := first | omega | (simp only [World.size_alloc, World.size_setCell, World.size_drew, World.heap_drewN] <;> omega) | fail) only [World.cell?_alloc_past, World.cell?_alloc_at, World.frozen?_alloc_past, World.frozen?_alloc_at, World.frozen?_setCell, World.cell?_drew, World.frozen?_drew]) <;> first | (with_reducible assumption) | rfl))), by (first | (with_reducible assumption) | ((simp only [World.frozen?_setCell, World.frozen?_drew, World.frozen?_drewN]) <;> (with_reducible assumption)) | ((repeat (first | (with_reducible assumption) | (with_reducible refine World.cell?_setCell_same _ _ _ (by with_reducible assumption)) | (rw [World.cell?_setCell_other _ _ _ _ (by intro e; simp at e; done)]) | (with_reducible refine cell_setCell_block ?_ ?_) | (rw [World.cell?_drew]) | (rw [World.cell?_drewN]) | (dsimp only; omega))); done) | (first | (with_reducible assumption) | ((try simp (disch := first | omega | (simp only [World.size_alloc, World.size_setCell, World.size_drew, World.heap_drewN] <;> omega) | fail) only [World.cell?_alloc_past, World.cell?_alloc_at, World.frozen?_alloc_past, World.frozen?_alloc_at, World.frozen?_setCell, World.cell?_drew, World.frozen?_drew]) <;> first | (with_reducible assumption) | rfl))), by (first | (with_reducible assumption) | ((simp only [World.frozen?_setCell, World.frozen?_drew, World.frozen?_drewN]) <;> (with_reducible assumption)) | ((repeat (first | (with_reducible assumption) | (with_reducible refine World.cell?_setCell_same _ _ _ (by with_reducible assumption)) | (rw [World.cell?_setCell_other _ _ _ _ (by intro e; simp at e; done)]) | (with_reducible refine cell_setCell_block ?_ ?_) | (rw [World.cell?_drew]) | (rw [World.cell?_drewN]) | (dsimp only; omega))); done) | (first | (with_reducible assumption) | ((try simp (disch := first | omega | (simp only [World.size_alloc, World.size_setCell, World.size_drew, World.heap_drewN] <;> omega) | fail) only [World.cell?_alloc_past, World.cell?_alloc_at, World.frozen?_alloc_past, World.frozen?_alloc_at, World.frozen?_setCell, World.cell?_drew, World.frozen?_drew]) <;> first | (with_reducible assumption) | rfl))), hz3, Lib.hid (below_drewN HB2.out _), by omega, hb1, hb2, Lib.hid ?_⟩⟩
        · rw [show ((2 * nn : Nat) : Int) = (nn : Int) * 2 by omega]
          rfl
        · have := HS.out
          rw [HTV.out, if_pos rfl] at this
          exact this
      | false =>
        go_wp2
        refine wp_goto ?_
        obtain ⟨⟨hb1, hb2⟩, hb3, hb4⟩ := HE.out
        refine show (0 = 0 ∧ H _ _) from ⟨rfl, hH d _ _ (by omega) ⟨2 * nn + 1, s + x2, frame_mk _ _ _ ?_, by (first | (with_reducible assumption) | ((simp only [World.frozen?_setCell, World.frozen?_drew, World.frozen?_drewN]) <;> (with_reducible assumption)) | ((repeat (first | (with_reducible assumption) | (with_reducible refine World.cell?_setCell_same _ _ _ (by with_reducible assumption)) | (rw [World.cell?_setCell_other _ _ _ _ (by intro e; simp at e; done)]) | (with_reducible refine cell_setCell_block ?_ ?_) | (rw [World.cell?_drew]) | (rw [World.cell?_drewN]) | (dsimp only; omega))); done) | (first | (with_reducible assumption) | ((try simp (disch := first | omega | (simp only [World.size_alloc, World.size_setCell, World.size_drew, World.heap_drewN] <;> omega) | fail) only [World.cell?_alloc_past, World.cell?_alloc_at, World.frozen?_alloc_past, World.frozen?_alloc_at, World.frozen?_setCell, World.cell?_drew, World.frozen?_drew]) <;> first | (with_reducible assumption) | rfl))), by (first | (with_reducible assumption) | ((simp only [World.frozen?_setCell, World.frozen?_drew, World.frozen?_drewN]) <;> (with_reducible assumption)) | ((repeat (first | (with_reducible assumption) | (with_reducible refine World.cell?_setCell_same _ _ _ (by with_reducible assumption)) | (rw [World.cell?_setCell_other _ _ _ _ (by intro e; simp at e; done)]) | (with_reducible refine cell_setCell_block ?_ ?_) | (rw [World.cell?_drew]) | (rw [World.cell?_drewN]) | (dsimp only; omega))); done) | (first | (with_reducible assumption) | ((try simp (disch := first | omega | (simp only [World.size_alloc, World.size_setCell, World.size_drew, World.heap_drewN] <;> omega) | fail) only [World.cell?_alloc_past, World.cell?_alloc_at, World.frozen?_alloc_past, World.frozen?_alloc_at, World.frozen?_setCell, World.cell?_drew, World.frozen?_drew]) <;> first | (with_reducible assumption) | rfl))), by (first | (with_reducible assumption) | ((simp only [World.frozen?_setCell, World.frozen?_drew, World.frozen?_drewN]) <;> (with_reducible assumption)) | ((repeat (first | (with_reducible assumption) | (with_reducible refine World.cell?_setCell_same _ _ _ (by with_reducible assumption)) | (rw [World.cell?_setCell_other _ _ _ _ (by intro e; simp at e; done)]) | (with_reducible refine cell_setCell_block ?_ ?_) | (rw [World.cell?_drew]) | (rw [World.cell?_drewN]) | (dsimp only; omega))); done) | (first | (with_reducible assumption) | ((try simp (disch := first | omega | (simp only [World.size_alloc, World.size_setCell, World.size_drew, World.heap_drewN] <;> omega) | fail) only [World.cell?_alloc_past, World.cell?_alloc_at, World.frozen?_alloc_past, World.frozen?_alloc_at, World.frozen?_setCell, World.cell?_drew, World.frozen?_drew]) <;> first | (with_reducible assumption) | rfl))), hz3, Lib.hid (below_drewN HB2.out _), by omega, hb3, hb4, Lib.hid ?_⟩⟩
        · rw [show ((2 * nn + 1 : Nat) : Int) = (nn : Int) * 2 + 1 by omega]
          rfl
        · have := HS.out
          rw [HTV.out, if_neg (by decide)] at this
          exact this
  · intro H hH hpass
    go_wp2_with (go_at_call 28; refine (LF.out _).mono ?_; rintro e w' ⟨rfl, rfl⟩)
    refine wp_label ?_
    go_step
    go_step
    refine hpass D _ _ ?_
    refine ⟨1, 0, frame_mk _ _ _ rfl, by (first | (with_reducible assumption) | ((simp only [World.frozen?_setCell, World.frozen?_drew, World.frozen?_drewN]) <;> (with_reducible assumption)) | ((repeat (first | (with_reducible assumption) | (with_reducible refine World.cell?_setCell_same _ _ _ (by with_reducible assumption)) | (rw [World.cell?_setCell_other _ _ _ _ (by intro e; simp at e; done)]) | (with_reducible refine cell_setCell_block ?_ ?_) | (rw [World.cell?_drew]) | (rw [World.cell?_drewN]) | (dsimp only; omega))); done) | (first | (with_reducible assumption) | ((try simp (disch := first | omega | (simp only [World.size_alloc, World.size_setCell, World.size_drew, World.heap_drewN] <;> omega) | fail) only [World.cell?_alloc_past, World.cell?_alloc_at, World.frozen?_alloc_past, World.frozen?_alloc_at, World.frozen?_setCell, World.cell?_drew, World.frozen?_drew]) <;> first | (with_reducible assumption) | rfl))), by (first | (with_reducible assumption) | ((simp only [World.frozen?_setCell, World.frozen?_drew, World.frozen?_drewN]) <;> (with_reducible assumption)) | ((repeat (first | (with_reducible assumption) | (with_reducible refine World.cell?_setCell_same _ _ _ (by with_reducible assumption)) | (rw [World.cell?_setCell_other _ _ _ _ (by intro e; simp at e; done)]) | (with_reducible refine cell_setCell_block ?_ ?_) | (rw [World.cell?_drew]) | (rw [World.cell?_drewN]) | (dsimp only; omega))); done) | (first | (with_reducible assumption) | ((try simp (disch := first | omega | (simp only [World.size_alloc, World.size_setCell, World.size_drew, World.heap_drewN] <;> omega) | fail) only [World.cell?_alloc_past, World.cell?_alloc_at, World.frozen?_alloc_past, World.frozen?_alloc_at, World.frozen?_setCell, World.cell?_drew, World.frozen?_drew]) <;> first | (with_reducible assumption) | rfl))), by (first | (with_reducible assumption) | ((simp only [World.frozen?_setCell, World.frozen?_drew, World.frozen?_drewN]) <;> (with_reducible assumption)) | ((repeat (first | (with_reducible assumption) | (with_reducible refine World.cell?_setCell_same _ _ _ (by with_reducible assumption)) | (rw [World.cell?_setCell_other _ _ _ _ (by intro e; simp at e; done)]) | (with_reducible refine cell_setCell_block ?_ ?_) | (rw [World.cell?_drew]) | (rw [World.cell?_drewN]) | (dsimp only; omega))); done) | (first | (with_reducible assumption) | ((try simp (disch := first | omega | (simp only [World.size_alloc, World.size_setCell, World.size_drew, World.heap_drewN] <;> omega) | fail) only [World.cell?_alloc_past, World.cell?_alloc_at, World.frozen?_alloc_past, World.frozen?_alloc_at, World.frozen?_setCell, World.cell?_drew, World.frozen?_drew]) <;> first | (with_reducible assumption) | rfl))), by simp, Lib.hid ((Below.refl _ _).alloc (Nat.le_refl _) _), Nat.le_refl _, by omega, by omega, HP⟩
end

section
open Go.RowKit

/-- what holds at each turn of the way -/
def WayNth (l : Int) (ma ca : Option Addr) (mc cc N bk F D : Nat) (P : Nat → Nat → Int → Prop) (w : World) (d : Nat) (a' : Act) (w' : World) : Prop :=
  ∃ (nn : Nat) (s : Int), (∃ u : Nat → Value, a' = { tmps := #[ixV l ma N mc ca N cc, (.func (.func 53) #[] #[.pointer (some ⟨bk, 0, none⟩)]), .pointer (some ⟨w.heap.size, 0, none⟩), u 3, u 4, .int .i64 s, .int .i64 nn, .int .i64 F, u 8, u 9, u 10, u 11, u 12, u 13, u 14, u 15, u 16, u 17, u 18, u 19, u 20, u 21, u 22, u 23, u 24, u 25, u 26, u 27, u 28, u 29, u 30, u 31, u 32, u 33, u 34, u 35, u 36, u 37, u 38, u 39, u 40, u 41, u 42, u 43, u 44, u 45, u 46, u 47, u 48, u 49, u 50, u 51, u 52, u 53, u 54, u 55, u 56], defers := [] }) ∧ w'.cell? ⟨w.heap.size, 0, none⟩ = some (.int .i64 l) ∧ w'.cell? ⟨w.heap.size, 1, none⟩ = some (.slice ma N mc) ∧ w'.cell? ⟨w.heap.size, 2, none⟩ = some (.slice ca N cc) ∧ w.heap.size < w'.heap.size ∧ Hid (Below w.heap.size w w') ∧ d ≤ D ∧ 2 ^ D ≤ nn * 2 ^ d ∧ (nn + 1) * 2 ^ d ≤ 2 * 2 ^ D ∧ Hid (P d nn s)

set_option maxRecDepth 100000 in
set_option maxHeartbeats 1000000 in
theorem wayNth_ok (L N D F : Nat) (l : Int) (hl : l = L) (h1 : 1 ≤ L) (h2 : L ≤ 14) (hN : N + 1 = 2 ^ L) (hD : D + 1 = L) (hF : 2 ^ D = F) (ma ca : Option Addr) (mc cc : Nat) (ms cs : List Int) (hlm : ms.length = N) (hlc : cs.length = N) (w : World)
    (hm : IsRow .i64 w ma ms) (hc : IsRow .i64 w ca cs) (key : Int) (bk : Nat) (hk : w.cell? ⟨bk, 0, none⟩ = some (.int .i64 key)) (P : Nat → Nat → Int → Prop) (T : Int → Int → Int → Bool) (hP : P D 1 0)
    (hst : ∀ d n s, P (d + 1) n s → (0 ≤ s ∧ s ≤ 65536 ∧ 0 ≤ s + tlF L cs (2 * n) ∧ s + tlF L cs (2 * n) ≤ 65536) ∧ if T (tlF L ms (2 * n)) (tlF L cs (2 * n)) s = true then P d (2 * n) s else P d (2 * n + 1) (s + tlF L cs (2 * n)))
    (hcl : ∀ d n s W, P (d + 1) n s → W.cell? ⟨bk, 0, none⟩ = some (.int .i64 key) → Calls Tryd.prog 53 #[.int .i64 (tlF L ms (2 * n)), .int .i64 (tlF L cs (2 * n)), .int .i64 s, .pointer (some ⟨bk, 0, none⟩)] W fun e w' => e = .returned (.bool (T (tlF L ms (2 * n)) (tlF L cs (2 * n)) s)) ∧ W = w') :
    Calls Tryd.prog 21 #[ixV l ma N mc ca N cc, .func (.func 53) #[] #[.pointer (some ⟨bk, 0, none⟩)]] w fun e w' => ∃ (n : Nat) (s : Int), e = .returned (.tuple #[.int .i64 ((n : Int) - F), .int .i64 s]) ∧ P 0 n s ∧ F ≤ n ∧ n < 2 * F ∧ Below w.heap.size w w' := by
  have e0 : lfE l 0 = 0 := by
    have hp := pow_bd (l.toNat - 1) (by omega)
    have h : 1 ≤ l ∧ l ≤ 14 := by omega
    unfold lfE
    rw [if_pos ⟨h, Int.le_refl 0, by omega⟩]
  have e1 : lfR l 0 = F := by
    unfold lfR
    rw [if_pos e0, show l.toNat - 1 = D by omega, ← hF]
    push_cast
    omega
  have hFb : F ≤ 8192 := by rw [← hF]; exact Nat.pow_le_pow_right (by omega) (by omega : D ≤ 13)
  have hF0 : 0 < F := by rw [← hF]; exact Nat.two_pow_pos D
  have LF := Lib.hid (Leaf_any l 0)
  rw [e0, e1] at LF
  have PL := Lib.hid (Place_any l)
  have HL := Lib.hid hl
  have HST := Lib.hid hst
  have HCL := Lib.hid hcl
  have HP := Lib.hid hP
  have HM := Lib.hid hm
  have HC := Lib.hid hc
  have HLM := Lib.hid hlm
  have HLC := Lib.hid hlc
  clear e0 e1 hl hst hcl hP hm hc hlm hlc
  go_enter Tryd.func21, Tryd.ntmps21
  go_wp2
  refine wp_scope_loop 0 (WayNth l ma ca mc cc N bk F D P w) rfl ?_ ?_
  · rintro d a wo ⟨nn, s, ⟨u, rfl⟩, c0, c1, c2, hz, HB, hd, hb1, hb2, HPd⟩ H hH
    rw [hF] at hb1 hb2
    cases d with
    | zero =>
      rw [Nat.pow_zero, Nat.mul_one] at hb1 hb2
      have hwn : IntKind.i64.wrap ((nn : Int) - (F : Int)) = (nn : Int) - (F : Int) := IntWalk.i64_in _ (by omega)
      go_wp2
      simp only [Exit.jump]
      go_ret2
      exact ⟨nn, s, rfl, HPd.out, by omega, by omega, HB.out⟩
    | succ d =>
      have hR := Nat.two_pow_pos d
      have hnF : nn < F := by
        have h9 : (nn + 1) * 2 ^ (d + 1) = (nn + 1) * 2 ^ d * 2 := by rw [Nat.pow_succ, Nat.mul_assoc]
        have h8 : (nn + 1) * 1 ≤ (nn + 1) * 2 ^ d := Nat.mul_le_mul_left _ hR
        omega
      have hn1 : 1 ≤ nn := by
        rcases Nat.eq_zero_or_pos nn with e | e
        · rw [e, Nat.zero_mul] at hb1
          omega
        · exact e
      have hll := HL.out
      have hnd : ndE l (2 * (nn : Int)) = 0 := by
        refine ndE_ok (by omega) (by omega) (by omega) ?_
        have : (2 : Int) ^ l.toNat = ((2 ^ L : Nat) : Int) := by rw [show l.toNat = L by omega]; push_cast; rfl
        have h8 : 2 ^ L = 2 * F := by rw [← hD, Nat.pow_succ, hF]; omega
        rw [this]
        omega
      obtain ⟨p, hp⟩ : ∃ p : Nat, vpos L (2 * nn) = p := ⟨_, rfl⟩
      have h2n : 2 * nn < 2 ^ L := by rw [← hD, Nat.pow_succ, hF]; omega
      have hpN : p < N := by have := (vpos_lay h1 (by omega : 1 ≤ 2 * nn) h2n).1; omega
      have hvp : vpR l (2 * (nn : Int)) = (p : Int) := by
        unfold vpR
        rw [if_pos hnd, ← hp, show l.toNat = L by omega, show (2 * (nn : Int)).toNat = 2 * nn by omega]
      have P2 := Lib.hid (Place_any l (2 * (nn : Int)))
      rw [hvp, hnd] at P2
      have hpc : (pcF L (2 * nn)).toNat = p := by rw [pcF, if_neg (by omega), plc_get h1 (by omega) h2n, hp]; rfl
      obtain ⟨b1, o1, x1, rfl, hx1, d1, -⟩ := (HM.out.below HB.out).get (i := p) (by have := HLM.out; omega)
      obtain ⟨b2, o2, x2, rfl, hx2, d2, -⟩ := (HC.out.below HB.out).get (i := p) (by have := HLC.out; omega)
      have hf1 : tlF L ms (2 * nn) = x1 := by rw [tlF, if_neg (by omega), hpc]; exact hx1.out
      have hf2 : tlF L cs (2 * nn) = x2 := by rw [tlF, if_neg (by omega), hpc]; exact hx2.out
      have hs := HST.out d nn s HPd.out
      have hc1 := fun W => HCL.out d nn s W HPd.out
      rw [hf1, hf2] at hs hc1
      obtain ⟨⟨hs0, hs1, hs2, hs3⟩, hs⟩ := hs
      have HS := Lib.hid hs
      have HC1 := Lib.hid hc1
      have e1 : nn * 2 ^ (d + 1) = 2 * nn * 2 ^ d := by rw [Nat.pow_succ, Nat.mul_comm 2 nn, Nat.mul_assoc, Nat.mul_comm 2]
      have e2 : (nn + 1) * 2 ^ (d + 1) = (2 * nn + 1 + 1) * 2 ^ d := by rw [Nat.pow_succ, show 2 * nn + 1 + 1 = (nn + 1) * 2 by omega, Nat.mul_assoc, Nat.mul_comm 2]
      have e3 : (2 * nn + 1) * 2 ^ d = 2 * nn * 2 ^ d + 2 ^ d := by rw [Nat.add_mul, Nat.one_mul]
      have e4 : (2 * nn + 1 + 1) * 2 ^ d = 2 * nn * 2 ^ d + 2 ^ d + 2 ^ d := by rw [Nat.add_mul, Nat.one_mul, e3]
      have hR2 : 0 < 2 ^ d := hR
      rw [e1] at hb1
      rw [e2, e4] at hb2
      have HE : Hid ((2 ^ D ≤ 2 * nn * 2 ^ d ∧ (2 * nn + 1) * 2 ^ d ≤ 2 * 2 ^ D) ∧ 2 ^ D ≤ (2 * nn + 1) * 2 ^ d ∧ (2 * nn + 1 + 1) * 2 ^ d ≤ 2 * 2 ^ D) := by
        refine Lib.hid ?_
        rw [e3, e4, hF]
        generalize 2 * nn * 2 ^ d = A at *
        generalize 2 ^ d = R at *
        omega
      clear hR2
      clear hll hvp hnd hp h2n hpc hf1 hf2 hx1 hx2 hs hc1 e1 e2 e3 e4 hb1 hb2 hR
      go_wp2_with (go_at_call 30; refine (P2.out _).mono ?_; rintro e w2 ⟨rfl, hb2⟩)
      have hz2 := hb2.size
      replace c0 := (hb2.cell (p := ⟨w.heap.size, 0, none⟩) hz).trans c0
      replace c1 := (hb2.cell (p := ⟨w.heap.size, 1, none⟩) hz).trans c1
      replace c2 := (hb2.cell (p := ⟨w.heap.size, 2, none⟩) hz).trans c2
      replace d1 := (hb2.cell (World.block_lt_of_cell? _ _ d1)).trans d1
      replace d2 := (hb2.cell (World.block_lt_of_cell? _ _ d2)).trans d2
      have HB2 := Lib.hid (below_via hb2 HB.out (by omega))
      have ck : w2.cell? ⟨bk, 0, none⟩ = some (.int .i64 key) := (HB2.out.cell (World.block_lt_of_cell? _ _ hk)).trans hk
      have H1 := Lib.hid (fun q => Calls.quiet_of_same ((HC1.out (w2.drewN q) ck).mono fun _ _ h => ⟨h.1, h.2.symm⟩))
      obtain ⟨tv, htv⟩ : ∃ tv : Bool, T x1 x2 s = tv := ⟨_, rfl⟩
      rw [htv] at H1
      have HTV := Lib.hid htv
      clear hb2 htv HC1
      go_quiet (exact H1.out _)
      have hz3 : w.heap.size < (w2.drewN nq).heap.size := by simp; omega
      cases tv with
      | true =>
        go_wp2
        refine wp_goto ?_
        obtain ⟨⟨hb1, hb2⟩, hb3, hb4⟩ := HE.out
        refine show (0 = 0 ∧ H _ _) from ⟨rfl, hH d _ _ (by omega) ⟨2 * nn, s, frame_mk _ _ _ ?_, by (first | (with_reducible assumption) | ((simp only [World.frozen?_setCell, World.frozen?_drew, World.frozen?_drewN]) <;> (with_reducible assumption)) | ((repeat (first | (with_reducible assumption) | (with_reducible refine World.cell?_setCell_same _ _ _ (by with_reducible assumption)) | (rw [World.cell?_setCell_other _ _ _ _ (by intro e; simp at e; done)]) | (with_reducible refine cell_setCell_block ?_ ?_) | (rw [World.cell?_drew]) | (rw [World.cell?_drewN]) | (dsimp only; omega))); done) | (first | (with_reducible assumption) | ((try simp (disch := first | omega | (simp only [World.size_alloc, World.size_setCell, World.size_drew, World.heap_drewN] <;> omega) | fail) only [World.cell?_alloc_past, World.cell?_alloc_at, World.frozen?_alloc_past, World.frozen?_alloc_at, World.frozen?_setCell, World.cell?_drew, World.frozen?_drew]) <;> first | (with_reducible assumption) | rfl))), by (first | (with_reducible assumption) | ((simp only [World.frozen?_setCell, World.frozen?_drew, World.frozen?_drewN]) <;> (with_reducible assumption)) | ((repeat (first | (with_reducible assumption) | (with_reducible refine World.cell?_setCell_same _ _ _ (by with_reducible assumption)) | (rw [World.cell?_setCell_other _ _ _ _ (by intro e; simp at e; done)]) | (with_reducible refine cell_setCell_block ?_ ?_) | (rw [World.cell?_drew]) | (rw [World.cell?_drewN]) | (dsimp only; omega))); done) | (first | (with_reducible assumption) | ((try simp (disch := first | omega | (simp only [World.size_alloc, World.size_setCell, World.size_drew, World.heap_drewN] <;> omega) | fail) only [World.cell?_alloc_past, World.cell?_alloc_at, World.frozen?_alloc_past, World.frozen?_alloc_at, World.frozen?_setCell, World.cell?_drew, World.frozen?_drew]) <;> first | (with_reducible assumption) | rfl))), by (first | (with_reducible assumption) | ((simp only [World.frozen?_setCell, World.frozen?_drew, World.frozen?_drewN]) <;> (with_reducible assumption)) | ((repeat (first | (with_reducible assumption) | (with_reducible refine World.cell?_setCell_same _ _ _ (by with_reducible assumption)) | (rw [World.cell?_setCell_other _ _ _ _ (by intro e; simp at e; done)]) | (with_reducible refine cell_setCell_block ?_ ?_) | (rw [World.cell?_drew]) | (rw [World.cell?_drewN]) | (dsimp only; omega))); done) | (first | (with_reducible assumption) | ((try simp (disch := first | omega | (simp only [World.size_alloc, World.size_setCell, World.size_drew, World.heap_drewN] <;> omega) | fail) only [World.cell?_alloc_past, World.cell?_alloc_at, World.frozen?_alloc_past, World.frozen?_alloc_at, World.frozen?_setCell, World.cell?_drew, World.frozen?_drew]) <;> first | (with_reducible assumption) | rfl))), hz3, Lib.hid (below_drewN HB2.out _), by omega, hb1, hb2, Lib.hid ?_⟩⟩
        · rw [show ((2 * nn : Nat) : Int) = (nn : Int) * 2 by omega]
          rfl
        · have := HS.out
          rw [HTV.out, if_pos rfl] at this
          exact this
      | false =>
        go_wp2
        refine wp_goto ?_
        obtain ⟨⟨hb1, hb2⟩, hb3, hb4⟩ := HE.out
        refine show (0 = 0 ∧ H _ _) from ⟨rfl, hH d _ _ (by omega) ⟨2 * nn + 1, s + x2, frame_mk _ _ _ ?_, by (first | (with_reducible assumption) | ((simp only [World.frozen?_setCell, World.frozen?_drew, World.frozen?_drewN]) <;> (with_reducible assumption)) | ((repeat (first | (with_reducible assumption) | (with_reducible refine World.cell?_setCell_same _ _ _ (by with_reducible assumption)) | (rw [World.cell?_setCell_other _ _ _ _ (by intro e; simp at e; done)]) | (with_reducible refine cell_setCell_block ?_ ?_) | (rw [World.cell?_drew]) | (rw [World.cell?_drewN]) | (dsimp only; omega))); done) | (first | (with_reducible assumption) | ((try simp (disch := first | omega | (simp only [World.size_alloc, World.size_setCell, World.size_drew, World.heap_drewN] <;> omega) | fail) only [World.cell?_alloc_past, World.cell?_alloc_at, World.frozen?_alloc_past, World.frozen?_alloc_at, World.frozen?_setCell, World.cell?_drew, World.frozen?_drew]) <;> first | (with_reducible assumption) | rfl))), by (first | (with_reducible assumption) | ((simp only [World.frozen?_setCell, World.frozen?_drew, World.frozen?_drewN]) <;> (with_reducible assumption)) | ((repeat (first | (with_reducible assumption) | (with_reducible refine World.cell?_setCell_same _ _ _ (by with_reducible assumption)) | (rw [World.cell?_setCell_other _ _ _ _ (by intro e; simp at e; done)]) | (with_reducible refine cell_setCell_block ?_ ?_) | (rw [World.cell?_drew]) | (rw [World.cell?_drewN]) | (dsimp only; omega))); done) | (first | (with_reducible assumption) | ((try simp (disch := first | omega | (simp only [World.size_alloc, World.size_setCell, World.size_drew, World.heap_drewN] <;> omega) | fail) only [World.cell?_alloc_past, World.cell?_alloc_at, World.frozen?_alloc_past, World.frozen?_alloc_at, World.frozen?_setCell, World.cell?_drew, World.frozen?_drew]) <;> first | (with_reducible assumption) | rfl))), by (first | (with_reducible assumption) | ((simp only [World.frozen?_setCell, World.frozen?_drew, World.frozen?_drewN]) <;> (with_reducible assumption)) | ((repeat (first | (with_reducible assumption) | (with_reducible refine World.cell?_setCell_same _ _ _ (by with_reducible assumption)) | (rw [World.cell?_setCell_other _ _ _ _ (by intro e; simp at e; done)]) | (with_reducible refine cell_setCell_block ?_ ?_) | (rw [World.cell?_drew]) | (rw [World.cell?_drewN]) | (dsimp only; omega))); done) | (first | (with_reducible assumption) | ((try simp (disch := first | omega | (simp only [World.size_alloc, World.size_setCell, World.size_drew, World.heap_drewN] <;> omega) | fail) only [World.cell?_alloc_past, World.cell?_alloc_at, World.frozen?_alloc_past, World.frozen?_alloc_at, World.frozen?_setCell, World.cell?_drew, World.frozen?_drew]) <;> first | (with_reducible assumption) | rfl))), hz3, Lib.hid (below_drewN HB2.out _), by omega, hb3, hb4, Lib.hid ?_⟩⟩
        · rw [show ((2 * nn + 1 : Nat) : Int) = (nn : Int) * 2 + 1 by omega]
          rfl
        · have := HS.out
          rw [HTV.out, if_neg (by decide)] at this
          exact this
  · intro H hH hpass
    go_wp2_with (go_at_call 28; refine (LF.out _).mono ?_; rintro e w' ⟨rfl, rfl⟩)
    refine wp_label ?_
    go_step
    go_step
    refine hpass D _ _ ?_
    refine ⟨1, 0, frame_mk _ _ _ rfl, by (first | (with_reducible assumption) | ((simp only [World.frozen?_setCell, World.frozen?_drew, World.frozen?_drewN]) <;> (with_reducible assumption)) | ((repeat (first | (with_reducible assumption) | (with_reducible refine World.cell?_setCell_same _ _ _ (by with_reducible assumption)) | (rw [World.cell?_setCell_other _ _ _ _ (by intro e; simp at e; done)]) | (with_reducible refine cell_setCell_block ?_ ?_) | (rw [World.cell?_drew]) | (rw [World.cell?_drewN]) | (dsimp only; omega))); done) | (first | (with_reducible assumption) | ((try simp (disch := first | omega | (simp only [World.size_alloc, World.size_setCell, World.size_drew, World.heap_drewN] <;> omega) | fail) only [World.cell?_alloc_past, World.cell?_alloc_at, World.frozen?_alloc_past, World.frozen?_alloc_at, World.frozen?_setCell, World.cell?_drew, World.frozen?_drew]) <;> first | (with_reducible assumption) | rfl))), by (first | (with_reducible assumption) | ((simp only [World.frozen?_setCell, World.frozen?_drew, World.frozen?_drewN]) <;> (with_reducible assumption)) | ((repeat (first | (with_reducible assumption) | (with_reducible refine World.cell?_setCell_same _ _ _ (by with_reducible assumption)) | (rw [World.cell?_setCell_other _ _ _ _ (by intro e; simp at e; done)]) | (with_reducible refine cell_setCell_block ?_ ?_) | (rw [World.cell?_drew]) | (rw [World.cell?_drewN]) | (dsimp only; omega))); done) | (first | (with_reducible assumption) | ((try simp (disch := first | omega | (simp only [World.size_alloc, World.size_setCell, World.size_drew, World.heap_drewN] <;> omega) | fail) only [World.cell?_alloc_past, World.cell?_alloc_at, World.frozen?_alloc_past, World.frozen?_alloc_at, World.frozen?_setCell, World.cell?_drew, World.frozen?_drew]) <;> first | (with_reducible assumption) | rfl))), by (first | (with_reducible assumption) | ((simp only [World.frozen?_setCell, World.frozen?_drew, World.frozen?_drewN]) <;> (with_reducible assumption)) | ((repeat (first | (with_reducible assumption) | (with_reducible refine World.cell?_setCell_same _ _ _ (by with_reducible assumption)) | (rw [World.cell?_setCell_other _ _ _ _ (by intro e; simp at e; done)]) | (with_reducible refine cell_setCell_block ?_ ?_) | (rw [World.cell?_drew]) | (rw [World.cell?_drewN]) | (dsimp only; omega))); done) | (first | (with_reducible assumption) | ((try simp (disch := first | omega | (simp only [World.size_alloc, World.size_setCell, World.size_drew, World.heap_drewN] <;> omega) | fail) only [World.cell?_alloc_past, World.cell?_alloc_at, World.frozen?_alloc_past, World.frozen?_alloc_at, World.frozen?_setCell, World.cell?_drew, World.frozen?_drew]) <;> first | (with_reducible assumption) | rfl))), by simp, Lib.hid ((Below.refl _ _).alloc (Nat.le_refl _) _), Nat.le_refl _, by omega, by omega, HP⟩
end

section
open Go.RowKit

set_option maxRecDepth 100000 in
set_option maxHeartbeats 1000000 in
theorem Home_ix (l key : Int) (ma ca : Option Addr) (mc cc : Nat) (ms cs : List Int) (w : World) (hm : IsRow .i64 w ma ms) (hc : IsRow .i64 w ca cs) :
    Calls Tryd.prog 8 #[ixV l ma ms.length mc ca cs.length cc, .int .i64 key] w (Ans w (.tuple #[.int .i64 (homT l ms cs key).1, .int .i64 (homT l ms cs key).2.1, .int .i64 (homT l ms cs key).2.2])) := by
  have CK := Lib.hid (fun (W : World) (hb : Below w.heap.size w W) => Check_ix l ma ca mc cc ms cs W (hm.below hb) (hc.below hb))
  by_cases hmay : ixMay l ms cs = true
  · have e0 : ixE l ms cs = 0 := if_pos hmay
    obtain ⟨L, D, N, F, hl, h1, h2, hN, hD, hF, hNF, hFb, hF0, hL, hLD, hlm, hlc, hg⟩ := ixMay_parts hmay
    have et : homT l ms cs key = homeL key (lvs (tlF L ms) (tlF L cs) D 1) 0 0 := by rw [homT, if_pos hmay, lvsR, hLD, hL]
    rw [et]
    rw [hlm, hlc, e0] at CK
    rw [hlm, hlc]
    obtain ⟨b1, o1, x1, rfl, hx1, d1, -⟩ := hm.get (i := 0) (by omega)
    obtain ⟨b2, o2, x2, rfl, hx2, d2, -⟩ := hc.get (i := 0) (by omega)
    have r1 : tlF L ms 1 = x1 := (tlF_root h1 ms).trans hx1.out
    have r2 : tlF L cs 1 = x2 := (tlF_root h1 cs).trans hx2.out
    obtain ⟨q1, q2, -⟩ := own_facts hg.own
    rw [r2] at q1 q2
    rw [Nat.add_zero] at d1 d2
    have hN0 : 0 < N := by omega
    by_cases hs : srv key x1 x2
    · have WY := Lib.hid (fun (W : World) (hb : Below w.heap.size w W) (bk : Nat) (hk : W.cell? ⟨bk, 0, none⟩ = some (.int .i64 key)) =>
        wayHome_ok L N D F l hl h1 h2 hN hD hF (some ⟨b1, o1, none⟩) (some ⟨b2, o2, none⟩) mc cc ms cs hlm hlc W (hm.below hb) (hc.below hb) key bk hk (HomeP key (tlF L ms) (tlF L cs) D) (fun m c s => decide (srv key m c)) (HomeP.root hg (by rw [r1, r2]; exact hs))
          (fun d n s h => h.step) (fun d n s W' h hk' => Home1_ok _ _ s key bk W' hk'))
      obtain ⟨hs1, hs2⟩ := hs
      have g1 : (x2 == 0) = false := by simp; omega
      have HF := Lib.hid hF
      clear hmay hN hD hF hL hLD hlm hlc hg et r1 r2 hx1 hx2 e0 hl h1 h2 hNF
      go_enter Tryd.func8, Tryd.ntmps8
      go_wp2_with fail
      refine (CK.out _ (by (repeat (first | (with_reducible exact Below.refl _ _) | (with_reducible assumption) | (with_reducible exact Hid.out (by with_reducible assumption)) | (with_reducible refine Below.alloc ?_ ?_ _) | (with_reducible refine Below.setCell ?_ ?_ _) | (with_reducible refine below_drewN ?_ _) | (with_reducible refine Below.drew ?_) | (with_reducible refine below_via (by with_reducible assumption) ?_ ?_) | (first | (with_reducible assumption) | omega | (simp only [World.size_alloc, World.size_setCell, World.size_drew, World.heap_drewN] <;> omega) | (simp <;> omega)))))).mono ?_
      rintro e w1 ⟨rfl, hb1⟩
      have hz_w1 := hb1.size
      try simp only [World.size_alloc, World.size_setCell] at hz_w1
      have c_t0 : w1.cell? ⟨w.heap.size, 0, none⟩ = some (.int .i64 l) := (hb1.cell (p := ⟨w.heap.size, 0, none⟩) (by (first | (with_reducible assumption) | omega | (simp only [World.size_alloc, World.size_setCell, World.size_drew, World.heap_drewN] <;> omega) | (simp <;> omega)))).trans (by (first | (with_reducible assumption) | ((try simp (disch := first | omega | (simp only [World.size_alloc, World.size_setCell, World.size_drew, World.heap_drewN] <;> omega) | fail) only [World.cell?_alloc_past, World.cell?_alloc_at, World.frozen?_alloc_past, World.frozen?_alloc_at, World.frozen?_setCell, World.cell?_drew, World.frozen?_drew]) <;> first | (with_reducible assumption) | rfl)))
      have c_t1 : w1.cell? ⟨w.heap.size, 1, none⟩ = some (.slice (some ⟨b1, o1, none⟩) N mc) := (hb1.cell (p := ⟨w.heap.size, 1, none⟩) (by (first | (with_reducible assumption) | omega | (simp only [World.size_alloc, World.size_setCell, World.size_drew, World.heap_drewN] <;> omega) | (simp <;> omega)))).trans (by (first | (with_reducible assumption) | ((try simp (disch := first | omega | (simp only [World.size_alloc, World.size_setCell, World.size_drew, World.heap_drewN] <;> omega) | fail) only [World.cell?_alloc_past, World.cell?_alloc_at, World.frozen?_alloc_past, World.frozen?_alloc_at, World.frozen?_setCell, World.cell?_drew, World.frozen?_drew]) <;> first | (with_reducible assumption) | rfl)))
      have c_t2 : w1.cell? ⟨w.heap.size, 2, none⟩ = some (.slice (some ⟨b2, o2, none⟩) N cc) := (hb1.cell (p := ⟨w.heap.size, 2, none⟩) (by (first | (with_reducible assumption) | omega | (simp only [World.size_alloc, World.size_setCell, World.size_drew, World.heap_drewN] <;> omega) | (simp <;> omega)))).trans (by (first | (with_reducible assumption) | ((try simp (disch := first | omega | (simp only [World.size_alloc, World.size_setCell, World.size_drew, World.heap_drewN] <;> omega) | fail) only [World.cell?_alloc_past, World.cell?_alloc_at, World.frozen?_alloc_past, World.frozen?_alloc_at, World.frozen?_setCell, World.cell?_drew, World.frozen?_drew]) <;> first | (with_reducible assumption) | rfl)))
      have z_t : w.heap.size < w1.heap.size := by omega
      have c_k0 : w1.cell? ⟨w.heap.size + 1, 0, none⟩ = some (.int .i64 key) := (hb1.cell (p := ⟨w.heap.size + 1, 0, none⟩) (by (first | (with_reducible assumption) | omega | (simp only [World.size_alloc, World.size_setCell, World.size_drew, World.heap_drewN] <;> omega) | (simp <;> omega)))).trans (by (first | (with_reducible assumption) | ((try simp (disch := first | omega | (simp only [World.size_alloc, World.size_setCell, World.size_drew, World.heap_drewN] <;> omega) | fail) only [World.cell?_alloc_past, World.cell?_alloc_at, World.frozen?_alloc_past, World.frozen?_alloc_at, World.frozen?_setCell, World.cell?_drew, World.frozen?_drew]) <;> first | (with_reducible assumption) | rfl)))
      have z_k : w.heap.size + 1 < w1.heap.size := by omega
      have hB1 : Below w.heap.size w w1 := by (repeat (first | (with_reducible exact Below.refl _ _) | (with_reducible assumption) | (with_reducible exact Hid.out (by with_reducible assumption)) | (with_reducible refine Below.alloc ?_ ?_ _) | (with_reducible refine Below.setCell ?_ ?_ _) | (with_reducible refine below_drewN ?_ _) | (with_reducible refine Below.drew ?_) | (with_reducible refine below_via (by with_reducible assumption) ?_ ?_) | (first | (with_reducible assumption) | omega | (simp only [World.size_alloc, World.size_setCell, World.size_drew, World.heap_drewN] <;> omega) | (simp <;> omega))))
      replace d1 := (hB1.cell (World.block_lt_of_cell? _ _ d1)).trans d1
      replace d2 := (hB1.cell (World.block_lt_of_cell? _ _ d2)).trans d2
      have HB1 := Lib.hid hB1
      clear hm hc hB1 hb1
      go_wp2
      go_big_quiet (fail)
      go_wp2_with (go_at_call 21; refine (WY.out _ (below_drewN HB1.out _) _ (by (first | (with_reducible assumption) | ((simp only [World.frozen?_setCell, World.frozen?_drew, World.frozen?_drewN]) <;> (with_reducible assumption)) | ((repeat (first | (with_reducible assumption) | (with_reducible refine World.cell?_setCell_same _ _ _ (by with_reducible assumption)) | (rw [World.cell?_setCell_other _ _ _ _ (by intro e; simp at e; done)]) | (with_reducible refine cell_setCell_block ?_ ?_) | (rw [World.cell?_drew]) | (rw [World.cell?_drewN]) | (dsimp only; omega))); done) | (first | (with_reducible assumption) | ((try simp (disch := first | omega | (simp only [World.size_alloc, World.size_setCell, World.size_drew, World.heap_drewN] <;> omega) | fail) only [World.cell?_alloc_past, World.cell?_alloc_at, World.frozen?_alloc_past, World.frozen?_alloc_at, World.frozen?_setCell, World.cell?_drew, World.frozen?_drew]) <;> first | (with_reducible assumption) | rfl))))).mono ?_; rintro e w2 ⟨n, s, rfl, hP, hn1, hn2, hb2⟩)
      have HP := Lib.hid hP
      have HB2 := Lib.hid (below_via hb2 (below_drewN HB1.out _) (by simp; omega))
      clear hP hb2
      go_wp2
      go_ret3
      rw [HP.out.last HF.out]
      exact ⟨rfl, HB2.out⟩
    · have ef := homeL_fail hg (key := key) (by rw [r1, r2]; exact hs) 0 0
      rw [ef]
      have hsp : x2 = 0 ∨ (0 < x2 ∧ x1 < key) := by
        unfold srv at hs
        by_cases h0 : x2 = 0
        · exact .inl h0
        · exact .inr ⟨by omega, by omega⟩
      clear hmay hN hD hF hL hLD hlm hlc hg et r1 r2 hx1 hx2 e0 hl h1 h2 hNF hs ef
      rcases hsp with rfl | ⟨h0, h1⟩
      · go_enter Tryd.func8, Tryd.ntmps8
        go_wp2_with fail
        refine (CK.out _ (by (repeat (first | (with_reducible exact Below.refl _ _) | (with_reducible assumption) | (with_reducible exact Hid.out (by with_reducible assumption)) | (with_reducible refine Below.alloc ?_ ?_ _) | (with_reducible refine Below.setCell ?_ ?_ _) | (with_reducible refine below_drewN ?_ _) | (with_reducible refine Below.drew ?_) | (with_reducible refine below_via (by with_reducible assumption) ?_ ?_) | (first | (with_reducible assumption) | omega | (simp only [World.size_alloc, World.size_setCell, World.size_drew, World.heap_drewN] <;> omega) | (simp <;> omega)))))).mono ?_
        rintro e w1 ⟨rfl, hb1⟩
        have hz_w1 := hb1.size
        try simp only [World.size_alloc, World.size_setCell] at hz_w1
        replace c_t0 : w1.cell? ⟨w.heap.size, 0, none⟩ = some (.int .i64 l) := (hb1.cell (p := ⟨w.heap.size, 0, none⟩) (by (first | (with_reducible assumption) | omega | (simp only [World.size_alloc, World.size_setCell, World.size_drew, World.heap_drewN] <;> omega) | (simp <;> omega)))).trans (by (first | (with_reducible assumption) | ((try simp (disch := first | omega | (simp only [World.size_alloc, World.size_setCell, World.size_drew, World.heap_drewN] <;> omega) | fail) only [World.cell?_alloc_past, World.cell?_alloc_at, World.frozen?_alloc_past, World.frozen?_alloc_at, World.frozen?_setCell, World.cell?_drew, World.frozen?_drew]) <;> first | (with_reducible assumption) | rfl)))
        replace c_t1 : w1.cell? ⟨w.heap.size, 1, none⟩ = some (.slice (some ⟨b1, o1, none⟩) N mc) := (hb1.cell (p := ⟨w.heap.size, 1, none⟩) (by (first | (with_reducible assumption) | omega | (simp only [World.size_alloc, World.size_setCell, World.size_drew, World.heap_drewN] <;> omega) | (simp <;> omega)))).trans (by (first | (with_reducible assumption) | ((try simp (disch := first | omega | (simp only [World.size_alloc, World.size_setCell, World.size_drew, World.heap_drewN] <;> omega) | fail) only [World.cell?_alloc_past, World.cell?_alloc_at, World.frozen?_alloc_past, World.frozen?_alloc_at, World.frozen?_setCell, World.cell?_drew, World.frozen?_drew]) <;> first | (with_reducible assumption) | rfl)))
        replace c_t2 : w1.cell? ⟨w.heap.size, 2, none⟩ = some (.slice (some ⟨b2, o2, none⟩) N cc) := (hb1.cell (p := ⟨w.heap.size, 2, none⟩) (by (first | (with_reducible assumption) | omega | (simp only [World.size_alloc, World.size_setCell, World.size_drew, World.heap_drewN] <;> omega) | (simp <;> omega)))).trans (by (first | (with_reducible assumption) | ((try simp (disch := first | omega | (simp only [World.size_alloc, World.size_setCell, World.size_drew, World.heap_drewN] <;> omega) | fail) only [World.cell?_alloc_past, World.cell?_alloc_at, World.frozen?_alloc_past, World.frozen?_alloc_at, World.frozen?_setCell, World.cell?_drew, World.frozen?_drew]) <;> first | (with_reducible assumption) | rfl)))
        replace z_t : w.heap.size < w1.heap.size := by omega
        replace c_k0 : w1.cell? ⟨w.heap.size + 1, 0, none⟩ = some (.int .i64 key) := (hb1.cell (p := ⟨w.heap.size + 1, 0, none⟩) (by (first | (with_reducible assumption) | omega | (simp only [World.size_alloc, World.size_setCell, World.size_drew, World.heap_drewN] <;> omega) | (simp <;> omega)))).trans (by (first | (with_reducible assumption) | ((try simp (disch := first | omega | (simp only [World.size_alloc, World.size_setCell, World.size_drew, World.heap_drewN] <;> omega) | fail) only [World.cell?_alloc_past, World.cell?_alloc_at, World.frozen?_alloc_past, World.frozen?_alloc_at, World.frozen?_setCell, World.cell?_drew, World.frozen?_drew]) <;> first | (with_reducible assumption) | rfl)))
        replace z_k : w.heap.size + 1 < w1.heap.size := by omega
        have hB1 : Below w.heap.size w w1 := by (repeat (first | (with_reducible exact Below.refl _ _) | (with_reducible assumption) | (with_reducible exact Hid.out (by with_reducible assumption)) | (with_reducible refine Below.alloc ?_ ?_ _) | (with_reducible refine Below.setCell ?_ ?_ _) | (with_reducible refine below_drewN ?_ _) | (with_reducible refine Below.drew ?_) | (with_reducible refine below_via (by with_reducible assumption) ?_ ?_) | (first | (with_reducible assumption) | omega | (simp only [World.size_alloc, World.size_setCell, World.size_drew, World.heap_drewN] <;> omega) | (simp <;> omega))))
        replace d1 := (hB1.cell (World.block_lt_of_cell? _ _ d1)).trans d1
        replace d2 := (hB1.cell (World.block_lt_of_cell? _ _ d2)).trans d2
        have HB1 := Lib.hid hB1
        clear hm hc hB1 hb1
        go_wp2
        go_big_quiet (fail)
        go_wp2
        go_ret3
        exact ⟨rfl, below_drewN HB1.out _⟩
      · have g1 : (x2 == 0) = false := by simp; omega
        go_enter Tryd.func8, Tryd.ntmps8
        go_wp2_with fail
        refine (CK.out _ (by (repeat (first | (with_reducible exact Below.refl _ _) | (with_reducible assumption) | (with_reducible exact Hid.out (by with_reducible assumption)) | (with_reducible refine Below.alloc ?_ ?_ _) | (with_reducible refine Below.setCell ?_ ?_ _) | (with_reducible refine below_drewN ?_ _) | (with_reducible refine Below.drew ?_) | (with_reducible refine below_via (by with_reducible assumption) ?_ ?_) | (first | (with_reducible assumption) | omega | (simp only [World.size_alloc, World.size_setCell, World.size_drew, World.heap_drewN] <;> omega) | (simp <;> omega)))))).mono ?_
        rintro e w1 ⟨rfl, hb1⟩
        have hz_w1 := hb1.size
        try simp only [World.size_alloc, World.size_setCell] at hz_w1
        replace c_t0 : w1.cell? ⟨w.heap.size, 0, none⟩ = some (.int .i64 l) := (hb1.cell (p := ⟨w.heap.size, 0, none⟩) (by (first | (with_reducible assumption) | omega | (simp only [World.size_alloc, World.size_setCell, World.size_drew, World.heap_drewN] <;> omega) | (simp <;> omega)))).trans (by (first | (with_reducible assumption) | ((try simp (disch := first | omega | (simp only [World.size_alloc, World.size_setCell, World.size_drew, World.heap_drewN] <;> omega) | fail) only [World.cell?_alloc_past, World.cell?_alloc_at, World.frozen?_alloc_past, World.frozen?_alloc_at, World.frozen?_setCell, World.cell?_drew, World.frozen?_drew]) <;> first | (with_reducible assumption) | rfl)))
        replace c_t1 : w1.cell? ⟨w.heap.size, 1, none⟩ = some (.slice (some ⟨b1, o1, none⟩) N mc) := (hb1.cell (p := ⟨w.heap.size, 1, none⟩) (by (first | (with_reducible assumption) | omega | (simp only [World.size_alloc, World.size_setCell, World.size_drew, World.heap_drewN] <;> omega) | (simp <;> omega)))).trans (by (first | (with_reducible assumption) | ((try simp (disch := first | omega | (simp only [World.size_alloc, World.size_setCell, World.size_drew, World.heap_drewN] <;> omega) | fail) only [World.cell?_alloc_past, World.cell?_alloc_at, World.frozen?_alloc_past, World.frozen?_alloc_at, World.frozen?_setCell, World.cell?_drew, World.frozen?_drew]) <;> first | (with_reducible assumption) | rfl)))
        replace c_t2 : w1.cell? ⟨w.heap.size, 2, none⟩ = some (.slice (some ⟨b2, o2, none⟩) N cc) := (hb1.cell (p := ⟨w.heap.size, 2, none⟩) (by (first | (with_reducible assumption) | omega | (simp only [World.size_alloc, World.size_setCell, World.size_drew, World.heap_drewN] <;> omega) | (simp <;> omega)))).trans (by (first | (with_reducible assumption) | ((try simp (disch := first | omega | (simp only [World.size_alloc, World.size_setCell, World.size_drew, World.heap_drewN] <;> omega) | fail) only [World.cell?_alloc_past, World.cell?_alloc_at, World.frozen?_alloc_past, World.frozen?_alloc_at, World.frozen?_setCell, World.cell?_drew, World.frozen?_drew]) <;> first | (with_reducible assumption) | rfl)))
        replace z_t : w.heap.size < w1.heap.size := by omega
        replace c_k0 : w1.cell? ⟨w.heap.size + 1, 0, none⟩ = some (.int .i64 key) := (hb1.cell (p := ⟨w.heap.size + 1, 0, none⟩) (by (first | (with_reducible assumption) | omega | (simp only [World.size_alloc, World.size_setCell, World.size_drew, World.heap_drewN] <;> omega) | (simp <;> omega)))).trans (by (first | (with_reducible assumption) | ((try simp (disch := first | omega | (simp only [World.size_alloc, World.size_setCell, World.size_drew, World.heap_drewN] <;> omega) | fail) only [World.cell?_alloc_past, World.cell?_alloc_at, World.frozen?_alloc_past, World.frozen?_alloc_at, World.frozen?_setCell, World.cell?_drew, World.frozen?_drew]) <;> first | (with_reducible assumption) | rfl)))
        replace z_k : w.heap.size + 1 < w1.heap.size := by omega
        have hB1 : Below w.heap.size w w1 := by (repeat (first | (with_reducible exact Below.refl _ _) | (with_reducible assumption) | (with_reducible exact Hid.out (by with_reducible assumption)) | (with_reducible refine Below.alloc ?_ ?_ _) | (with_reducible refine Below.setCell ?_ ?_ _) | (with_reducible refine below_drewN ?_ _) | (with_reducible refine Below.drew ?_) | (with_reducible refine below_via (by with_reducible assumption) ?_ ?_) | (first | (with_reducible assumption) | omega | (simp only [World.size_alloc, World.size_setCell, World.size_drew, World.heap_drewN] <;> omega) | (simp <;> omega))))
        replace d1 := (hB1.cell (World.block_lt_of_cell? _ _ d1)).trans d1
        replace d2 := (hB1.cell (World.block_lt_of_cell? _ _ d2)).trans d2
        have HB1 := Lib.hid hB1
        clear hm hc hB1 hb1
        go_wp2
        go_big_quiet (fail)
        go_wp2
        go_ret3
        exact ⟨rfl, below_drewN HB1.out _⟩
  · have e0 : ixE l ms cs = 8 := if_neg hmay
    have et : homT l ms cs key = (0, 0, 8) := if_neg hmay
    rw [e0] at CK
    rw [et]
    clear e0 et hmay hm hc
    go_enter Tryd.func8, Tryd.ntmps8
    go_wp2_with fail
    refine (CK.out _ (by (repeat (first | (with_reducible exact Below.refl _ _) | (with_reducible assumption) | (with_reducible exact Hid.out (by with_reducible assumption)) | (with_reducible refine Below.alloc ?_ ?_ _) | (with_reducible refine Below.setCell ?_ ?_ _) | (with_reducible refine below_drewN ?_ _) | (with_reducible refine Below.drew ?_) | (with_reducible refine below_via (by with_reducible assumption) ?_ ?_) | (first | (with_reducible assumption) | omega | (simp only [World.size_alloc, World.size_setCell, World.size_drew, World.heap_drewN] <;> omega) | (simp <;> omega)))))).mono ?_
    rintro e w1 ⟨rfl, hb1⟩
    go_wp2
    go_ret3
    exact ⟨rfl, by (repeat (first | (with_reducible exact Below.refl _ _) | (with_reducible assumption) | (with_reducible exact Hid.out (by with_reducible assumption)) | (with_reducible refine Below.alloc ?_ ?_ _) | (with_reducible refine Below.setCell ?_ ?_ _) | (with_reducible refine below_drewN ?_ _) | (with_reducible refine Below.drew ?_) | (with_reducible refine below_via (by with_reducible assumption) ?_ ?_) | (first | (with_reducible assumption) | omega | (simp only [World.size_alloc, World.size_setCell, World.size_drew, World.heap_drewN] <;> omega) | (simp <;> omega))))⟩

set_option maxRecDepth 100000 in
set_option maxHeartbeats 1000000 in
theorem Nth_ix (l k : Int) (hk1 : -9223372036854775808 ≤ k) (hk2 : k ≤ 9223372036854775807) (ma ca : Option Addr) (mc cc : Nat) (ms cs : List Int) (w : World) (hm : IsRow .i64 w ma ms) (hc : IsRow .i64 w ca cs) :
    Calls Tryd.prog 31 #[ixV l ma ms.length mc ca cs.length cc, .int .i64 k] w (Ans w (.tuple #[.int .i64 (nthT l ms cs k).1, .int .i64 (nthT l ms cs k).2.1, .int .i64 (nthT l ms cs k).2.2])) := by
  have CK := Lib.hid (fun (W : World) (hb : Below w.heap.size w W) => Check_ix l ma ca mc cc ms cs W (hm.below hb) (hc.below hb))
  by_cases hmay : ixMay l ms cs = true
  · have e0 : ixE l ms cs = 0 := if_pos hmay
    obtain ⟨L, D, N, F, hl, h1, h2, hN, hD, hF, hNF, hFb, hF0, hL, hLD, hlm, hlc, hg⟩ := ixMay_parts hmay
    have et : nthT l ms cs k = if k < 0 then (0, 0, 290) else nthL (lvs (tlF L ms) (tlF L cs) D 1) 0 k := by rw [nthT, if_pos hmay, lvsR, hLD, hL]
    rw [et]
    rw [hlm, hlc, e0] at CK
    rw [hlm, hlc]
    obtain ⟨b2, o2, x2, rfl, hx2, d2, -⟩ := hc.get (i := 0) (by omega)
    have r2 : tlF L cs 1 = x2 := (tlF_root h1 cs).trans hx2.out
    obtain ⟨q1, q2, -⟩ := own_facts hg.own
    rw [r2] at q1 q2
    rw [Nat.add_zero] at d2
    have hN0 : 0 < N := by omega
    by_cases hs : 0 ≤ k ∧ k < x2
    · obtain ⟨hs1, hs2⟩ := hs
      have WY := Lib.hid (fun (W : World) (hb : Below w.heap.size w W) (bk : Nat) (hk : W.cell? ⟨bk, 0, none⟩ = some (.int .i64 k)) =>
        wayNth_ok L N D F l hl h1 h2 hN hD hF ma (some ⟨b2, o2, none⟩) mc cc ms cs hlm hlc W (hm.below hb) (hc.below hb) k bk hk (NthP k (tlF L ms) (tlF L cs) D) (fun m c s => decide (k - s < c)) (NthP.root hg hs1 (by rw [r2]; exact hs2))
          (fun d n s h => h.step) (fun d n s W' h hk' => Nth1_ok _ _ s k bk W' hk' (by have := h.2.1; omega) (by have := h.2.2.2.1; omega)))
      rw [if_neg (by omega)]
      have HF := Lib.hid hF
      clear hmay hN hD hF hL hLD hlm hlc hg et r2 hx2 e0 hl h1 h2 hNF
      have g1 : decide (k < 0) = false := by simp; omega
      go_enter Tryd.func31, Tryd.ntmps31
      go_wp2_with fail
      refine (CK.out _ (by (repeat (first | (with_reducible exact Below.refl _ _) | (with_reducible assumption) | (with_reducible exact Hid.out (by with_reducible assumption)) | (with_reducible refine Below.alloc ?_ ?_ _) | (with_reducible refine Below.setCell ?_ ?_ _) | (with_reducible refine below_drewN ?_ _) | (with_reducible refine Below.drew ?_) | (with_reducible refine below_via (by with_reducible assumption) ?_ ?_) | (first | (with_reducible assumption) | omega | (simp only [World.size_alloc, World.size_setCell, World.size_drew, World.heap_drewN] <;> omega) | (simp <;> omega)))))).mono ?_
      rintro e w1 ⟨rfl, hb1⟩
      have hz_w1 := hb1.size
      try simp only [World.size_alloc, World.size_setCell] at hz_w1
      have c_t0 : w1.cell? ⟨w.heap.size, 0, none⟩ = some (.int .i64 l) := (hb1.cell (p := ⟨w.heap.size, 0, none⟩) (by (first | (with_reducible assumption) | omega | (simp only [World.size_alloc, World.size_setCell, World.size_drew, World.heap_drewN] <;> omega) | (simp <;> omega)))).trans (by (first | (with_reducible assumption) | ((try simp (disch := first | omega | (simp only [World.size_alloc, World.size_setCell, World.size_drew, World.heap_drewN] <;> omega) | fail) only [World.cell?_alloc_past, World.cell?_alloc_at, World.frozen?_alloc_past, World.frozen?_alloc_at, World.frozen?_setCell, World.cell?_drew, World.frozen?_drew]) <;> first | (with_reducible assumption) | rfl)))
      have c_t1 : w1.cell? ⟨w.heap.size, 1, none⟩ = some (.slice ma N mc) := (hb1.cell (p := ⟨w.heap.size, 1, none⟩) (by (first | (with_reducible assumption) | omega | (simp only [World.size_alloc, World.size_setCell, World.size_drew, World.heap_drewN] <;> omega) | (simp <;> omega)))).trans (by (first | (with_reducible assumption) | ((try simp (disch := first | omega | (simp only [World.size_alloc, World.size_setCell, World.size_drew, World.heap_drewN] <;> omega) | fail) only [World.cell?_alloc_past, World.cell?_alloc_at, World.frozen?_alloc_past, World.frozen?_alloc_at, World.frozen?_setCell, World.cell?_drew, World.frozen?_drew]) <;> first | (with_reducible assumption) | rfl)))
      have c_t2 : w1.cell? ⟨w.heap.size, 2, none⟩ = some (.slice (some ⟨b2, o2, none⟩) N cc) := (hb1.cell (p := ⟨w.heap.size, 2, none⟩) (by (first | (with_reducible assumption) | omega | (simp only [World.size_alloc, World.size_setCell, World.size_drew, World.heap_drewN] <;> omega) | (simp <;> omega)))).trans (by (first | (with_reducible assumption) | ((try simp (disch := first | omega | (simp only [World.size_alloc, World.size_setCell, World.size_drew, World.heap_drewN] <;> omega) | fail) only [World.cell?_alloc_past, World.cell?_alloc_at, World.frozen?_alloc_past, World.frozen?_alloc_at, World.frozen?_setCell, World.cell?_drew, World.frozen?_drew]) <;> first | (with_reducible assumption) | rfl)))
      have z_t : w.heap.size < w1.heap.size := by omega
      have c_k0 : w1.cell? ⟨w.heap.size + 1, 0, none⟩ = some (.int .i64 k) := (hb1.cell (p := ⟨w.heap.size + 1, 0, none⟩) (by (first | (with_reducible assumption) | omega | (simp only [World.size_alloc, World.size_setCell, World.size_drew, World.heap_drewN] <;> omega) | (simp <;> omega)))).trans (by (first | (with_reducible assumption) | ((try simp (disch := first | omega | (simp only [World.size_alloc, World.size_setCell, World.size_drew, World.heap_drewN] <;> omega) | fail) only [World.cell?_alloc_past, World.cell?_alloc_at, World.frozen?_alloc_past, World.frozen?_alloc_at, World.frozen?_setCell, World.cell?_drew, World.frozen?_drew]) <;> first | (with_reducible assumption) | rfl)))
      have z_k : w.heap.size + 1 < w1.heap.size := by omega
      have hB1 : Below w.heap.size w w1 := by (repeat (first | (with_reducible exact Below.refl _ _) | (with_reducible assumption) | (with_reducible exact Hid.out (by with_reducible assumption)) | (with_reducible refine Below.alloc ?_ ?_ _) | (with_reducible refine Below.setCell ?_ ?_ _) | (with_reducible refine below_drewN ?_ _) | (with_reducible refine Below.drew ?_) | (with_reducible refine below_via (by with_reducible assumption) ?_ ?_) | (first | (with_reducible assumption) | omega | (simp only [World.size_alloc, World.size_setCell, World.size_drew, World.heap_drewN] <;> omega) | (simp <;> omega))))
      replace d2 := (hB1.cell (World.block_lt_of_cell? _ _ d2)).trans d2
      have HB1 := Lib.hid hB1
      clear hm hc hB1 hb1
      go_wp2
      go_big_quiet (fail)
      go_wp2_with (go_at_call 21; refine (WY.out _ (below_drewN HB1.out _) _ (by (first | (with_reducible assumption) | ((simp only [World.frozen?_setCell, World.frozen?_drew, World.frozen?_drewN]) <;> (with_reducible assumption)) | ((repeat (first | (with_reducible assumption) | (with_reducible refine World.cell?_setCell_same _ _ _ (by with_reducible assumption)) | (rw [World.cell?_setCell_other _ _ _ _ (by intro e; simp at e; done)]) | (with_reducible refine cell_setCell_block ?_ ?_) | (rw [World.cell?_drew]) | (rw [World.cell?_drewN]) | (dsimp only; omega))); done) | (first | (with_reducible assumption) | ((try simp (disch := first | omega | (simp only [World.size_alloc, World.size_setCell, World.size_drew, World.heap_drewN] <;> omega) | fail) only [World.cell?_alloc_past, World.cell?_alloc_at, World.frozen?_alloc_past, World.frozen?_alloc_at, World.frozen?_setCell, World.cell?_drew, World.frozen?_drew]) <;> first | (with_reducible assumption) | rfl))))).mono ?_; rintro e w2 ⟨n, s, rfl, hP, hn1, hn2, hb2⟩)
      have ck : w2.cell? ⟨w.heap.size + 1, 0, none⟩ = some (.int .i64 k) := (hb2.cell (p := ⟨w.heap.size + 1, 0, none⟩) (by simp; omega)).trans (by (first | (with_reducible assumption) | ((simp only [World.frozen?_setCell, World.frozen?_drew, World.frozen?_drewN]) <;> (with_reducible assumption)) | ((repeat (first | (with_reducible assumption) | (with_reducible refine World.cell?_setCell_same _ _ _ (by with_reducible assumption)) | (rw [World.cell?_setCell_other _ _ _ _ (by intro e; simp at e; done)]) | (with_reducible refine cell_setCell_block ?_ ?_) | (rw [World.cell?_drew]) | (rw [World.cell?_drewN]) | (dsimp only; omega))); done) | (first | (with_reducible assumption) | ((try simp (disch := first | omega | (simp only [World.size_alloc, World.size_setCell, World.size_drew, World.heap_drewN] <;> omega) | fail) only [World.cell?_alloc_past, World.cell?_alloc_at, World.frozen?_alloc_past, World.frozen?_alloc_at, World.frozen?_setCell, World.cell?_drew, World.frozen?_drew]) <;> first | (with_reducible assumption) | rfl))))
      have hps := hP.2.1
      have hp0 := hP.2.2.2.1
      have HP := Lib.hid hP
      have HB2 := Lib.hid (below_via hb2 (below_drewN HB1.out _) (by simp; omega))
      have hwr : IntKind.i64.wrap (k - s) = k - s := IntWalk.i64_in _ (by omega)
      clear hP hb2
      go_wp2
      go_big_quiet (fail)
      go_wp2
      go_ret3
      rw [HP.out.last HF.out]
      exact ⟨rfl, below_drewN HB2.out _⟩
    · have ef : (if k < 0 then ((0, 0, 290) : Int × Int × Int) else nthL (lvs (tlF L ms) (tlF L cs) D 1) 0 k) = (0, 0, 290) := by
        split
        · rfl
        · exact nthL_fail hg (by rw [r2]; omega) 0
      rw [ef]
      have hsp : k < 0 ∨ (0 ≤ k ∧ x2 ≤ k) := by omega
      clear hmay hN hD hF hL hLD hlm hlc hg et r2 hx2 e0 hl h1 h2 hNF hs ef
      rcases hsp with h0 | ⟨h0, h1⟩
      · have g1 : decide (k < 0) = true := by simp [h0]
        go_enter Tryd.func31, Tryd.ntmps31
        go_wp2_with fail
        refine (CK.out _ (by (repeat (first | (with_reducible exact Below.refl _ _) | (with_reducible assumption) | (with_reducible exact Hid.out (by with_reducible assumption)) | (with_reducible refine Below.alloc ?_ ?_ _) | (with_reducible refine Below.setCell ?_ ?_ _) | (with_reducible refine below_drewN ?_ _) | (with_reducible refine Below.drew ?_) | (with_reducible refine below_via (by with_reducible assumption) ?_ ?_) | (first | (with_reducible assumption) | omega | (simp only [World.size_alloc, World.size_setCell, World.size_drew, World.heap_drewN] <;> omega) | (simp <;> omega)))))).mono ?_
        rintro e w1 ⟨rfl, hb1⟩
        have hz_w1 := hb1.size
        try simp only [World.size_alloc, World.size_setCell] at hz_w1
        replace c_t0 : w1.cell? ⟨w.heap.size, 0, none⟩ = some (.int .i64 l) := (hb1.cell (p := ⟨w.heap.size, 0, none⟩) (by (first | (with_reducible assumption) | omega | (simp only [World.size_alloc, World.size_setCell, World.size_drew, World.heap_drewN] <;> omega) | (simp <;> omega)))).trans (by (first | (with_reducible assumption) | ((try simp (disch := first | omega | (simp only [World.size_alloc, World.size_setCell, World.size_drew, World.heap_drewN] <;> omega) | fail) only [World.cell?_alloc_past, World.cell?_alloc_at, World.frozen?_alloc_past, World.frozen?_alloc_at, World.frozen?_setCell, World.cell?_drew, World.frozen?_drew]) <;> first | (with_reducible assumption) | rfl)))
        replace c_t1 : w1.cell? ⟨w.heap.size, 1, none⟩ = some (.slice ma N mc) := (hb1.cell (p := ⟨w.heap.size, 1, none⟩) (by (first | (with_reducible assumption) | omega | (simp only [World.size_alloc, World.size_setCell, World.size_drew, World.heap_drewN] <;> omega) | (simp <;> omega)))).trans (by (first | (with_reducible assumption) | ((try simp (disch := first | omega | (simp only [World.size_alloc, World.size_setCell, World.size_drew, World.heap_drewN] <;> omega) | fail) only [World.cell?_alloc_past, World.cell?_alloc_at, World.frozen?_alloc_past, World.frozen?_alloc_at, World.frozen?_setCell, World.cell?_drew, World.frozen?_drew]) <;> first | (with_reducible assumption) | rfl)))
        replace c_t2 : w1.cell? ⟨w.heap.size, 2, none⟩ = some (.slice (some ⟨b2, o2, none⟩) N cc) := (hb1.cell (p := ⟨w.heap.size, 2, none⟩) (by (first | (with_reducible assumption) | omega | (simp only [World.size_alloc, World.size_setCell, World.size_drew, World.heap_drewN] <;> omega) | (simp <;> omega)))).trans (by (first | (with_reducible assumption) | ((try simp (disch := first | omega | (simp only [World.size_alloc, World.size_setCell, World.size_drew, World.heap_drewN] <;> omega) | fail) only [World.cell?_alloc_past, World.cell?_alloc_at, World.frozen?_alloc_past, World.frozen?_alloc_at, World.frozen?_setCell, World.cell?_drew, World.frozen?_drew]) <;> first | (with_reducible assumption) | rfl)))
        replace z_t : w.heap.size < w1.heap.size := by omega
        replace c_k0 : w1.cell? ⟨w.heap.size + 1, 0, none⟩ = some (.int .i64 k) := (hb1.cell (p := ⟨w.heap.size + 1, 0, none⟩) (by (first | (with_reducible assumption) | omega | (simp only [World.size_alloc, World.size_setCell, World.size_drew, World.heap_drewN] <;> omega) | (simp <;> omega)))).trans (by (first | (with_reducible assumption) | ((try simp (disch := first | omega | (simp only [World.size_alloc, World.size_setCell, World.size_drew, World.heap_drewN] <;> omega) | fail) only [World.cell?_alloc_past, World.cell?_alloc_at, World.frozen?_alloc_past, World.frozen?_alloc_at, World.frozen?_setCell, World.cell?_drew, World.frozen?_drew]) <;> first | (with_reducible assumption) | rfl)))
        replace z_k : w.heap.size + 1 < w1.heap.size := by omega
        have hB1 : Below w.heap.size w w1 := by (repeat (first | (with_reducible exact Below.refl _ _) | (with_reducible assumption) | (with_reducible exact Hid.out (by with_reducible assumption)) | (with_reducible refine Below.alloc ?_ ?_ _) | (with_reducible refine Below.setCell ?_ ?_ _) | (with_reducible refine below_drewN ?_ _) | (with_reducible refine Below.drew ?_) | (with_reducible refine below_via (by with_reducible assumption) ?_ ?_) | (first | (with_reducible assumption) | omega | (simp only [World.size_alloc, World.size_setCell, World.size_drew, World.heap_drewN] <;> omega) | (simp <;> omega))))
        replace d2 := (hB1.cell (World.block_lt_of_cell? _ _ d2)).trans d2
        have HB1 := Lib.hid hB1
        clear hm hc hB1 hb1
        go_wp2
        go_big_quiet (fail)
        go_wp2
        go_ret3
        exact ⟨rfl, below_drewN HB1.out _⟩
      · have g1 : decide (k < 0) = false := by simp; omega
        go_enter Tryd.func31, Tryd.ntmps31
        go_wp2_with fail
        refine (CK.out _ (by (repeat (first | (with_reducible exact Below.refl _ _) | (with_reducible assumption) | (with_reducible exact Hid.out (by with_reducible assumption)) | (with_reducible refine Below.alloc ?_ ?_ _) | (with_reducible refine Below.setCell ?_ ?_ _) | (with_reducible refine below_drewN ?_ _) | (with_reducible refine Below.drew ?_) | (with_reducible refine below_via (by with_reducible assumption) ?_ ?_) | (first | (with_reducible assumption) | omega | (simp only [World.size_alloc, World.size_setCell, World.size_drew, World.heap_drewN] <;> omega) | (simp <;> omega)))))).mono ?_
        rintro e w1 ⟨rfl, hb1⟩
        have hz_w1 := hb1.size
        try simp only [World.size_alloc, World.size_setCell] at hz_w1
        replace c_t0 : w1.cell? ⟨w.heap.size, 0, none⟩ = some (.int .i64 l) := (hb1.cell (p := ⟨w.heap.size, 0, none⟩) (by (first | (with_reducible assumption) | omega | (simp only [World.size_alloc, World.size_setCell, World.size_drew, World.heap_drewN] <;> omega) | (simp <;> omega)))).trans (by (first | (with_reducible assumption) | ((try simp (disch := first | omega | (simp only [World.size_alloc, World.size_setCell, World.size_drew, World.heap_drewN] <;> omega) | fail) only [World.cell?_alloc_past, World.cell?_alloc_at, World.frozen?_alloc_past, World.frozen?_alloc_at, World.frozen?_setCell, World.cell?_drew, World.frozen?_drew]) <;> first | (with_reducible assumption) | rfl)))
        replace c_t1 : w1.cell? ⟨w.heap.size, 1, none⟩ = some (.slice ma N mc) := (hb1.cell (p := ⟨w.heap.size, 1, none⟩) (by (first | (with_reducible assumption) | omega | (simp only [World.size_alloc, World.size_setCell, World.size_drew, World.heap_drewN] <;> omega) | (simp <;> omega)))).trans (by (first | (with_reducible assumption) | ((try simp (disch := first | omega | (simp only [World.size_alloc, World.size_setCell, World.size_drew, World.heap_drewN] <;> omega) | fail) only [World.cell?_alloc_past, World.cell?_alloc_at, World.frozen?_alloc_past, World.frozen?_alloc_at, World.frozen?_setCell, World.cell?_drew, World.frozen?_drew]) <;> first | (with_reducible assumption) | rfl)))
        replace c_t2 : w1.cell? ⟨w.heap.size, 2, none⟩ = some (.slice (some ⟨b2, o2, none⟩) N cc) := (hb1.cell (p := ⟨w.heap.size, 2, none⟩) (by (first | (with_reducible assumption) | omega | (simp only [World.size_alloc, World.size_setCell, World.size_drew, World.heap_drewN] <;> omega) | (simp <;> omega)))).trans (by (first | (with_reducible assumption) | ((try simp (disch := first | omega | (simp only [World.size_alloc, World.size_setCell, World.size_drew, World.heap_drewN] <;> omega) | fail) only [World.cell?_alloc_past, World.cell?_alloc_at, World.frozen?_alloc_past, World.frozen?_alloc_at, World.frozen?_setCell, World.cell?_drew, World.frozen?_drew]) <;> first | (with_reducible assumption) | rfl)))
        replace z_t : w.heap.size < w1.heap.size := by omega
        replace c_k0 : w1.cell? ⟨w.heap.size + 1, 0, none⟩ = some (.int .i64 k) := (hb1.cell (p := ⟨w.heap.size + 1, 0, none⟩) (by (first | (with_reducible assumption) | omega | (simp only [World.size_alloc, World.size_setCell, World.size_drew, World.heap_drewN] <;> omega) | (simp <;> omega)))).trans (by (first | (with_reducible assumption) | ((try simp (disch := first | omega | (simp only [World.size_alloc, World.size_setCell, World.size_drew, World.heap_drewN] <;> omega) | fail) only [World.cell?_alloc_past, World.cell?_alloc_at, World.frozen?_alloc_past, World.frozen?_alloc_at, World.frozen?_setCell, World.cell?_drew, World.frozen?_drew]) <;> first | (with_reducible assumption) | rfl)))
        replace z_k : w.heap.size + 1 < w1.heap.size := by omega
        have hB1 : Below w.heap.size w w1 := by (repeat (first | (with_reducible exact Below.refl _ _) | (with_reducible assumption) | (with_reducible exact Hid.out (by with_reducible assumption)) | (with_reducible refine Below.alloc ?_ ?_ _) | (with_reducible refine Below.setCell ?_ ?_ _) | (with_reducible refine below_drewN ?_ _) | (with_reducible refine Below.drew ?_) | (with_reducible refine below_via (by with_reducible assumption) ?_ ?_) | (first | (with_reducible assumption) | omega | (simp only [World.size_alloc, World.size_setCell, World.size_drew, World.heap_drewN] <;> omega) | (simp <;> omega))))
        replace d2 := (hB1.cell (World.block_lt_of_cell? _ _ d2)).trans d2
        have HB1 := Lib.hid hB1
        clear hm hc hB1 hb1
        go_wp2
        go_big_quiet (fail)
        go_wp2
        go_ret3
        exact ⟨rfl, below_drewN HB1.out _⟩
  · have e0 : ixE l ms cs = 8 := if_neg hmay
    have et : nthT l ms cs k = (0, 0, 8) := if_neg hmay
    rw [e0] at CK
    rw [et]
    clear e0 et hmay hm hc
    go_enter Tryd.func31, Tryd.ntmps31
    go_wp2_with fail
    refine (CK.out _ (by (repeat (first | (with_reducible exact Below.refl _ _) | (with_reducible assumption) | (with_reducible exact Hid.out (by with_reducible assumption)) | (with_reducible refine Below.alloc ?_ ?_ _) | (with_reducible refine Below.setCell ?_ ?_ _) | (with_reducible refine below_drewN ?_ _) | (with_reducible refine Below.drew ?_) | (with_reducible refine below_via (by with_reducible assumption) ?_ ?_) | (first | (with_reducible assumption) | omega | (simp only [World.size_alloc, World.size_setCell, World.size_drew, World.heap_drewN] <;> omega) | (simp <;> omega)))))).mono ?_
    rintro e w1 ⟨rfl, hb1⟩
    go_wp2
    go_ret3
    exact ⟨rfl, by (repeat (first | (with_reducible exact Below.refl _ _) | (with_reducible assumption) | (with_reducible exact Hid.out (by with_reducible assumption)) | (with_reducible refine Below.alloc ?_ ?_ _) | (with_reducible refine Below.setCell ?_ ?_ _) | (with_reducible refine below_drewN ?_ _) | (with_reducible refine Below.drew ?_) | (with_reducible refine below_via (by with_reducible assumption) ?_ ?_) | (first | (with_reducible assumption) | omega | (simp only [World.size_alloc, World.size_setCell, World.size_drew, World.heap_drewN] <;> omega) | (simp <;> omega))))⟩
end
end Go.Proofs.YtfmoghjddfjfmaaDoor
