/- The walk of the reference's empty gapped array. -/
import Derived.Test.YtookgoidlnlckaaSlPut
import Derived.Deep.CutRange
namespace Go.Proofs.Ytookgoidlnlckaa
open Go.RowKit Go.Shelf
attribute [local go_sem] Oper.semAt_some
set_option linter.unusedVariables false
set_option linter.unusedSimpArgs false

set_option maxRecDepth 100000 in
set_option maxHeartbeats 2000000 in
theorem Empty04_core (w : World) (seg many nw nc : Nat) (hs : 4 ≤ seg) (hm : many ≤ 65536) (hs2 : seg ≤ 64) (hnw : ((many : Int) + 63).tdiv 64 = nw) (hnc : (many : Int).tdiv seg = nc) (hnw2 : nw ≤ 65536) (hnc2 : nc ≤ 65536) :
    Calls Try.prog 52 #[.int .i64 seg, .int .i64 many] w (FreshSl w (zeroSl seg many nw nc)) := by
  have hs0 : ((seg : Int) == 0) = false := by simp; omega
  have hsn : ¬ (seg : Int) = 0 := by omega
  have hsn2 : ¬ seg = 0 := by omega
  have hw0 : IntKind.i64.wrap ((many : Int) + 63) = (many : Int) + 63 := IntWalk.i64_in _ (by omega)
  have hw1 : IntKind.i64.wrap (nw : Int) = (nw : Int) := IntWalk.i64_in _ (by omega)
  have hw2 : IntKind.i64.wrap (nc : Int) = (nc : Int) := IntWalk.i64_in _ (by omega)
  go_enter Try.func52, Try.ntmps52
  go_upto_region 1 with (fail)
  generalize hwz : w.alloc (.cells #[.int .i64 0, .slice none 0 0, .slice none 0 0, .slice none 0 0, .slice none 0 0, .int .u64 0] 29) = wz
  have c_r0 : wz.cell? ⟨w.heap.size, 0, none⟩ = some (.int .i64 0) := by rw [← hwz]; (first | (with_reducible assumption) | ((simp only [World.frozen?_setCell, World.frozen?_drew, World.frozen?_drewN]) <;> (with_reducible assumption)) | ((repeat (first | (with_reducible assumption) | (with_reducible refine World.cell?_setCell_same _ _ _ (by with_reducible assumption)) | (rw [World.cell?_setCell_other _ _ _ _ (by intro e; simp at e; done)]) | (with_reducible refine cell_setCell_block ?_ ?_) | (rw [World.cell?_drew]) | (rw [World.cell?_drewN]) | (dsimp only; omega))); done) | (first | (with_reducible assumption) | ((try simp (disch := first | omega | (simp only [szW] <;> omega) | fail) only [ceW]) <;> first | (with_reducible assumption) | rfl)))
  have f_r0 : wz.frozen? ⟨w.heap.size, 0, none⟩ = false := by rw [← hwz]; (first | (with_reducible assumption) | ((simp only [World.frozen?_setCell, World.frozen?_drew, World.frozen?_drewN]) <;> (with_reducible assumption)) | ((repeat (first | (with_reducible assumption) | (with_reducible refine World.cell?_setCell_same _ _ _ (by with_reducible assumption)) | (rw [World.cell?_setCell_other _ _ _ _ (by intro e; simp at e; done)]) | (with_reducible refine cell_setCell_block ?_ ?_) | (rw [World.cell?_drew]) | (rw [World.cell?_drewN]) | (dsimp only; omega))); done) | (first | (with_reducible assumption) | ((try simp (disch := first | omega | (simp only [szW] <;> omega) | fail) only [ceW]) <;> first | (with_reducible assumption) | rfl)))
  have c_r1 : wz.cell? ⟨w.heap.size, 1, none⟩ = some (.slice none 0 0) := by rw [← hwz]; (first | (with_reducible assumption) | ((simp only [World.frozen?_setCell, World.frozen?_drew, World.frozen?_drewN]) <;> (with_reducible assumption)) | ((repeat (first | (with_reducible assumption) | (with_reducible refine World.cell?_setCell_same _ _ _ (by with_reducible assumption)) | (rw [World.cell?_setCell_other _ _ _ _ (by intro e; simp at e; done)]) | (with_reducible refine cell_setCell_block ?_ ?_) | (rw [World.cell?_drew]) | (rw [World.cell?_drewN]) | (dsimp only; omega))); done) | (first | (with_reducible assumption) | ((try simp (disch := first | omega | (simp only [szW] <;> omega) | fail) only [ceW]) <;> first | (with_reducible assumption) | rfl)))
  have f_r1 : wz.frozen? ⟨w.heap.size, 1, none⟩ = false := by rw [← hwz]; (first | (with_reducible assumption) | ((simp only [World.frozen?_setCell, World.frozen?_drew, World.frozen?_drewN]) <;> (with_reducible assumption)) | ((repeat (first | (with_reducible assumption) | (with_reducible refine World.cell?_setCell_same _ _ _ (by with_reducible assumption)) | (rw [World.cell?_setCell_other _ _ _ _ (by intro e; simp at e; done)]) | (with_reducible refine cell_setCell_block ?_ ?_) | (rw [World.cell?_drew]) | (rw [World.cell?_drewN]) | (dsimp only; omega))); done) | (first | (with_reducible assumption) | ((try simp (disch := first | omega | (simp only [szW] <;> omega) | fail) only [ceW]) <;> first | (with_reducible assumption) | rfl)))
  have c_r2 : wz.cell? ⟨w.heap.size, 2, none⟩ = some (.slice none 0 0) := by rw [← hwz]; (first | (with_reducible assumption) | ((simp only [World.frozen?_setCell, World.frozen?_drew, World.frozen?_drewN]) <;> (with_reducible assumption)) | ((repeat (first | (with_reducible assumption) | (with_reducible refine World.cell?_setCell_same _ _ _ (by with_reducible assumption)) | (rw [World.cell?_setCell_other _ _ _ _ (by intro e; simp at e; done)]) | (with_reducible refine cell_setCell_block ?_ ?_) | (rw [World.cell?_drew]) | (rw [World.cell?_drewN]) | (dsimp only; omega))); done) | (first | (with_reducible assumption) | ((try simp (disch := first | omega | (simp only [szW] <;> omega) | fail) only [ceW]) <;> first | (with_reducible assumption) | rfl)))
  have f_r2 : wz.frozen? ⟨w.heap.size, 2, none⟩ = false := by rw [← hwz]; (first | (with_reducible assumption) | ((simp only [World.frozen?_setCell, World.frozen?_drew, World.frozen?_drewN]) <;> (with_reducible assumption)) | ((repeat (first | (with_reducible assumption) | (with_reducible refine World.cell?_setCell_same _ _ _ (by with_reducible assumption)) | (rw [World.cell?_setCell_other _ _ _ _ (by intro e; simp at e; done)]) | (with_reducible refine cell_setCell_block ?_ ?_) | (rw [World.cell?_drew]) | (rw [World.cell?_drewN]) | (dsimp only; omega))); done) | (first | (with_reducible assumption) | ((try simp (disch := first | omega | (simp only [szW] <;> omega) | fail) only [ceW]) <;> first | (with_reducible assumption) | rfl)))
  have c_r3 : wz.cell? ⟨w.heap.size, 3, none⟩ = some (.slice none 0 0) := by rw [← hwz]; (first | (with_reducible assumption) | ((simp only [World.frozen?_setCell, World.frozen?_drew, World.frozen?_drewN]) <;> (with_reducible assumption)) | ((repeat (first | (with_reducible assumption) | (with_reducible refine World.cell?_setCell_same _ _ _ (by with_reducible assumption)) | (rw [World.cell?_setCell_other _ _ _ _ (by intro e; simp at e; done)]) | (with_reducible refine cell_setCell_block ?_ ?_) | (rw [World.cell?_drew]) | (rw [World.cell?_drewN]) | (dsimp only; omega))); done) | (first | (with_reducible assumption) | ((try simp (disch := first | omega | (simp only [szW] <;> omega) | fail) only [ceW]) <;> first | (with_reducible assumption) | rfl)))
  have f_r3 : wz.frozen? ⟨w.heap.size, 3, none⟩ = false := by rw [← hwz]; (first | (with_reducible assumption) | ((simp only [World.frozen?_setCell, World.frozen?_drew, World.frozen?_drewN]) <;> (with_reducible assumption)) | ((repeat (first | (with_reducible assumption) | (with_reducible refine World.cell?_setCell_same _ _ _ (by with_reducible assumption)) | (rw [World.cell?_setCell_other _ _ _ _ (by intro e; simp at e; done)]) | (with_reducible refine cell_setCell_block ?_ ?_) | (rw [World.cell?_drew]) | (rw [World.cell?_drewN]) | (dsimp only; omega))); done) | (first | (with_reducible assumption) | ((try simp (disch := first | omega | (simp only [szW] <;> omega) | fail) only [ceW]) <;> first | (with_reducible assumption) | rfl)))
  have c_r4 : wz.cell? ⟨w.heap.size, 4, none⟩ = some (.slice none 0 0) := by rw [← hwz]; (first | (with_reducible assumption) | ((simp only [World.frozen?_setCell, World.frozen?_drew, World.frozen?_drewN]) <;> (with_reducible assumption)) | ((repeat (first | (with_reducible assumption) | (with_reducible refine World.cell?_setCell_same _ _ _ (by with_reducible assumption)) | (rw [World.cell?_setCell_other _ _ _ _ (by intro e; simp at e; done)]) | (with_reducible refine cell_setCell_block ?_ ?_) | (rw [World.cell?_drew]) | (rw [World.cell?_drewN]) | (dsimp only; omega))); done) | (first | (with_reducible assumption) | ((try simp (disch := first | omega | (simp only [szW] <;> omega) | fail) only [ceW]) <;> first | (with_reducible assumption) | rfl)))
  have f_r4 : wz.frozen? ⟨w.heap.size, 4, none⟩ = false := by rw [← hwz]; (first | (with_reducible assumption) | ((simp only [World.frozen?_setCell, World.frozen?_drew, World.frozen?_drewN]) <;> (with_reducible assumption)) | ((repeat (first | (with_reducible assumption) | (with_reducible refine World.cell?_setCell_same _ _ _ (by with_reducible assumption)) | (rw [World.cell?_setCell_other _ _ _ _ (by intro e; simp at e; done)]) | (with_reducible refine cell_setCell_block ?_ ?_) | (rw [World.cell?_drew]) | (rw [World.cell?_drewN]) | (dsimp only; omega))); done) | (first | (with_reducible assumption) | ((try simp (disch := first | omega | (simp only [szW] <;> omega) | fail) only [ceW]) <;> first | (with_reducible assumption) | rfl)))
  have c_r5 : wz.cell? ⟨w.heap.size, 5, none⟩ = some (.int .u64 0) := by rw [← hwz]; (first | (with_reducible assumption) | ((simp only [World.frozen?_setCell, World.frozen?_drew, World.frozen?_drewN]) <;> (with_reducible assumption)) | ((repeat (first | (with_reducible assumption) | (with_reducible refine World.cell?_setCell_same _ _ _ (by with_reducible assumption)) | (rw [World.cell?_setCell_other _ _ _ _ (by intro e; simp at e; done)]) | (with_reducible refine cell_setCell_block ?_ ?_) | (rw [World.cell?_drew]) | (rw [World.cell?_drewN]) | (dsimp only; omega))); done) | (first | (with_reducible assumption) | ((try simp (disch := first | omega | (simp only [szW] <;> omega) | fail) only [ceW]) <;> first | (with_reducible assumption) | rfl)))
  have f_r5 : wz.frozen? ⟨w.heap.size, 5, none⟩ = false := by rw [← hwz]; (first | (with_reducible assumption) | ((simp only [World.frozen?_setCell, World.frozen?_drew, World.frozen?_drewN]) <;> (with_reducible assumption)) | ((repeat (first | (with_reducible assumption) | (with_reducible refine World.cell?_setCell_same _ _ _ (by with_reducible assumption)) | (rw [World.cell?_setCell_other _ _ _ _ (by intro e; simp at e; done)]) | (with_reducible refine cell_setCell_block ?_ ?_) | (rw [World.cell?_drew]) | (rw [World.cell?_drewN]) | (dsimp only; omega))); done) | (first | (with_reducible assumption) | ((try simp (disch := first | omega | (simp only [szW] <;> omega) | fail) only [ceW]) <;> first | (with_reducible assumption) | rfl)))
  have z_r : w.heap.size < wz.heap.size := by rw [← hwz]; (first | (with_reducible assumption) | omega | (simp only [szW] <;> omega) | (simp <;> omega))
  have HS : Hid (Below w.heap.size w wz) := by rw [← hwz]; exact Lib.hid ((Below.refl _ _).alloc (Nat.le_refl _) _)
  have hz : w.heap.size + 1 = wz.heap.size := by rw [← hwz]; simp
  clear hwz
  refine wp_region_late 14 (by kernel_rfl) (N := 19) rfl (by kernel_rfl) (by kernel_rfl) (by decide) (fun w' => Below wz.heap.size wz w') RB (factRAt [.is (.int .i64 seg), .is (.int .i64 many), .is (.int .i64 ((many : Int) + 63)), .is (.int .i64 nw), .own wz.heap.size 27 nw ((List.replicate nw (0 : Int)).map (Value.int .u64)), .is (.int .i64 many), .own wz.heap.size 2 many ((List.replicate many (0 : Int)).map (Value.int .i64)), .is (.int .i64 many), .own wz.heap.size 2 many ((List.replicate many (0 : Int)).map (Value.int .i64)), .is (.int .i64 many), .is (.int .i64 seg), .is (.int .i64 nc), .own wz.heap.size 3 nc ((List.replicate nc (0 : Int)).map (Value.int .i64)), .sl wz.heap.size (zeroSl seg many nw nc)]) (factRAt_stays _) (Below.refl _ _).drew ?steps ?fin
  case steps =>
    refine ⟨?o0, ?o1, ?o2, ?o3, ?o4, ?o5, ?o6, ?o7, ?o8, ?o9, ?o10, ?o11, ?o12, ?o13, trivial⟩
    case o0 =>
      intro u a w' ev hJ hd K hK
      have e0 : a.tmps.getD 0 undef = .int .i64 seg := ev 0 (by decide)
      have HK := Lib.hid hK
      clear hK ev hd
      go_simp
      exact HK.out _ _ (fun h => by cases h) hJ rfl (Below.refl _ _)
    case o1 =>
      intro u a w' ev hJ hd K hK
      have e1 : a.tmps.getD 1 undef = .int .i64 many := ev 1 (by decide)
      have HK := Lib.hid hK
      clear hK ev hd
      go_simp
      exact HK.out _ _ (fun h => by cases h) hJ rfl (Below.refl _ _)
    case o2 =>
      intro u a w' ev hJ hd K hK
      have e6 : a.tmps.getD 6 undef = .int .i64 many := (ev 6 (by decide)).trans (hd 1 _ (by kernel_rfl) rfl)
      have HK := Lib.hid hK
      clear hK ev hd
      go_simp
      exact HK.out _ _ (fun h => by cases h) hJ rfl (Below.refl _ _)
    case o3 =>
      intro u a w' ev hJ hd K hK
      have e7 : a.tmps.getD 7 undef = .int .i64 ((many : Int) + 63) := (ev 7 (by decide)).trans (hd 2 _ (by kernel_rfl) rfl)
      have HK := Lib.hid hK
      clear hK ev hd
      go_simp
      exact HK.out _ _ (fun h => by cases h) hJ rfl (Below.refl _ _)
    case o4 =>
      intro u a w' ev hJ hd K hK
      have e8 : a.tmps.getD 8 undef = .int .i64 nw := (ev 8 (by decide)).trans (hd 3 _ (by kernel_rfl) rfl)
      exact wp_make (.tmp 8) (.tmp 8) 24 27 _ 1 8 Try.underlying24 info4_uint64 (by decide) wz.heap.size nw _ rfl (by omega) hJ.size rfl e8 e8 (fun g w'' k1 k2 k3 => hK _ _ (fun h => by cases h) (hJ.trans (k3.mono hJ.size)) ⟨g, rfl, by rw [made_zero] at k2; exact k2⟩ k3)
    case o5 =>
      intro u a w' ev hJ hd K hK
      have e1 : a.tmps.getD 1 undef = .int .i64 many := ev 1 (by decide)
      have HK := Lib.hid hK
      clear hK ev hd
      go_simp
      exact HK.out _ _ (fun h => by cases h) hJ rfl (Below.refl _ _)
    case o6 =>
      intro u a w' ev hJ hd K hK
      have e10 : a.tmps.getD 10 undef = .int .i64 many := (ev 10 (by decide)).trans (hd 5 _ (by kernel_rfl) rfl)
      exact wp_make (.tmp 10) (.tmp 10) 25 2 _ 1 8 Try.underlying25 info4_int64 (by decide) wz.heap.size many _ rfl (by omega) hJ.size rfl e10 e10 (fun g w'' k1 k2 k3 => hK _ _ (fun h => by cases h) (hJ.trans (k3.mono hJ.size)) ⟨g, rfl, by rw [made_zero] at k2; exact k2⟩ k3)
    case o7 =>
      intro u a w' ev hJ hd K hK
      have e1 : a.tmps.getD 1 undef = .int .i64 many := ev 1 (by decide)
      have HK := Lib.hid hK
      clear hK ev hd
      go_simp
      exact HK.out _ _ (fun h => by cases h) hJ rfl (Below.refl _ _)
    case o8 =>
      intro u a w' ev hJ hd K hK
      have e12 : a.tmps.getD 12 undef = .int .i64 many := (ev 12 (by decide)).trans (hd 7 _ (by kernel_rfl) rfl)
      exact wp_make (.tmp 12) (.tmp 12) 25 2 _ 1 8 Try.underlying25 info4_int64 (by decide) wz.heap.size many _ rfl (by omega) hJ.size rfl e12 e12 (fun g w'' k1 k2 k3 => hK _ _ (fun h => by cases h) (hJ.trans (k3.mono hJ.size)) ⟨g, rfl, by rw [made_zero] at k2; exact k2⟩ k3)
    case o9 =>
      intro u a w' ev hJ hd K hK
      have e1 : a.tmps.getD 1 undef = .int .i64 many := ev 1 (by decide)
      have HK := Lib.hid hK
      clear hK ev hd
      go_simp
      exact HK.out _ _ (fun h => by cases h) hJ rfl (Below.refl _ _)
    case o10 =>
      intro u a w' ev hJ hd K hK
      have e0 : a.tmps.getD 0 undef = .int .i64 seg := ev 0 (by decide)
      have HK := Lib.hid hK
      clear hK ev hd
      go_simp
      exact HK.out _ _ (fun h => by cases h) hJ rfl (Below.refl _ _)
    case o11 =>
      intro u a w' ev hJ hd K hK
      have e14 : a.tmps.getD 14 undef = .int .i64 many := (ev 14 (by decide)).trans (hd 9 _ (by kernel_rfl) rfl)
      have e15 : a.tmps.getD 15 undef = .int .i64 seg := (ev 15 (by decide)).trans (hd 10 _ (by kernel_rfl) rfl)
      have HK := Lib.hid hK
      clear hK ev hd
      go_simp
      exact HK.out _ _ (fun h => by cases h) hJ rfl (Below.refl _ _)
    case o12 =>
      intro u a w' ev hJ hd K hK
      have e16 : a.tmps.getD 16 undef = .int .i64 nc := (ev 16 (by decide)).trans (hd 11 _ (by kernel_rfl) rfl)
      exact wp_make (.tmp 16) (.tmp 16) 26 3 _ 1 8 Try.underlying26 info4_int (by decide) wz.heap.size nc _ rfl (by omega) hJ.size rfl e16 e16 (fun g w'' k1 k2 k3 => hK _ _ (fun h => by cases h) (hJ.trans (k3.mono hJ.size)) ⟨g, rfl, by rw [made_zero] at k2; exact k2⟩ k3)
    case o13 =>
      intro u a w' ev hJ hd K hK
      have h5 : u 5 = .int .i64 seg := hd 0 _ (by kernel_rfl) rfl
      obtain ⟨g9, h9, o9⟩ : (FactR.own wz.heap.size 27 nw ((List.replicate nw (0 : Int)).map (Value.int .u64))).holds (u 9) w' := hd 4 _ (by kernel_rfl) rfl
      obtain ⟨g11, h11, o11⟩ : (FactR.own wz.heap.size 2 many ((List.replicate many (0 : Int)).map (Value.int .i64))).holds (u 11) w' := hd 6 _ (by kernel_rfl) rfl
      obtain ⟨g13, h13, o13⟩ : (FactR.own wz.heap.size 2 many ((List.replicate many (0 : Int)).map (Value.int .i64))).holds (u 13) w' := hd 8 _ (by kernel_rfl) rfl
      obtain ⟨g17, h17, o17⟩ : (FactR.own wz.heap.size 3 nc ((List.replicate nc (0 : Int)).map (Value.int .i64))).holds (u 17) w' := hd 12 _ (by kernel_rfl) rfl
      have f5 : a.tmps[5]?.getD undef = .int .i64 seg := by rw [← Array.getD_eq_getD_getElem?]; exact (ev 5 (by decide)).trans h5
      have f9 : a.tmps[9]?.getD undef = .slice (some ⟨g9, 0, none⟩) nw nw := by rw [← Array.getD_eq_getD_getElem?]; exact (ev 9 (by decide)).trans h9
      have f11 : a.tmps[11]?.getD undef = .slice (some ⟨g11, 0, none⟩) many many := by rw [← Array.getD_eq_getD_getElem?]; exact (ev 11 (by decide)).trans h11
      have f13 : a.tmps[13]?.getD undef = .slice (some ⟨g13, 0, none⟩) many many := by rw [← Array.getD_eq_getD_getElem?]; exact (ev 13 (by decide)).trans h13
      have f17 : a.tmps[17]?.getD undef = .slice (some ⟨g17, 0, none⟩) nc nc := by rw [← Array.getD_eq_getD_getElem?]; exact (ev 17 (by decide)).trans h17
      have HK := Lib.hid hK
      have O9 := Lib.hid o9
      have O11 := Lib.hid o11
      have O13 := Lib.hid o13
      have O17 := Lib.hid o17
      clear hK ev hd h5 h9 h11 h13 h17 o9 o11 o13 o17
      go_simp
      exact HK.out _ _ (fun h => by cases h) hJ ⟨_, _, _, _, rfl, by simpa [zeroSl] using O9.out, by simpa [zeroSl] using O11.out, by simpa [zeroSl] using O13.out, by simpa [zeroSl] using O17.out⟩ (Below.refl _ _)
  case fin =>
    intro u w2 hJ hG
    obtain ⟨v1, v2, v3, v4, h18, p1, p2, p3, p4⟩ : (FactR.sl wz.heap.size (zeroSl seg many nw nc)).holds (u 18) w2 := hG 13 _ rfl
    obtain ⟨a1, c1, rfl, -⟩ := owns_news p1
    obtain ⟨a2, c2, rfl, -⟩ := owns_news p2
    obtain ⟨a3, c3, rfl, -⟩ := owns_news p3
    obtain ⟨a4, c4, rfl, -⟩ := owns_news p4
    have HP1 := Lib.hid p1
    have HP2 := Lib.hid p2
    have HP3 := Lib.hid p3
    have HP4 := Lib.hid p4
    have hz_w2 := hJ.size
    try simp only [World.size_alloc, World.size_setCell] at hz_w2
    replace c_r0 : w2.cell? ⟨w.heap.size, 0, none⟩ = some (.int .i64 0) := (hJ.cell (p := ⟨w.heap.size, 0, none⟩) (by (first | (with_reducible assumption) | omega | (simp only [szW] <;> omega) | (simp <;> omega)))).trans (by (first | (with_reducible assumption) | ((try simp (disch := first | omega | (simp only [szW] <;> omega) | fail) only [ceW]) <;> first | (with_reducible assumption) | rfl)))
    replace f_r0 : w2.frozen? ⟨w.heap.size, 0, none⟩ = false := (hJ.frozen (p := ⟨w.heap.size, 0, none⟩) (by (first | (with_reducible assumption) | omega | (simp only [szW] <;> omega) | (simp <;> omega)))).trans (by (first | (with_reducible assumption) | ((try simp (disch := first | omega | (simp only [szW] <;> omega) | fail) only [ceW]) <;> first | (with_reducible assumption) | rfl)))
    replace c_r1 : w2.cell? ⟨w.heap.size, 1, none⟩ = some (.slice none 0 0) := (hJ.cell (p := ⟨w.heap.size, 1, none⟩) (by (first | (with_reducible assumption) | omega | (simp only [szW] <;> omega) | (simp <;> omega)))).trans (by (first | (with_reducible assumption) | ((try simp (disch := first | omega | (simp only [szW] <;> omega) | fail) only [ceW]) <;> first | (with_reducible assumption) | rfl)))
    replace f_r1 : w2.frozen? ⟨w.heap.size, 1, none⟩ = false := (hJ.frozen (p := ⟨w.heap.size, 1, none⟩) (by (first | (with_reducible assumption) | omega | (simp only [szW] <;> omega) | (simp <;> omega)))).trans (by (first | (with_reducible assumption) | ((try simp (disch := first | omega | (simp only [szW] <;> omega) | fail) only [ceW]) <;> first | (with_reducible assumption) | rfl)))
    replace c_r2 : w2.cell? ⟨w.heap.size, 2, none⟩ = some (.slice none 0 0) := (hJ.cell (p := ⟨w.heap.size, 2, none⟩) (by (first | (with_reducible assumption) | omega | (simp only [szW] <;> omega) | (simp <;> omega)))).trans (by (first | (with_reducible assumption) | ((try simp (disch := first | omega | (simp only [szW] <;> omega) | fail) only [ceW]) <;> first | (with_reducible assumption) | rfl)))
    replace f_r2 : w2.frozen? ⟨w.heap.size, 2, none⟩ = false := (hJ.frozen (p := ⟨w.heap.size, 2, none⟩) (by (first | (with_reducible assumption) | omega | (simp only [szW] <;> omega) | (simp <;> omega)))).trans (by (first | (with_reducible assumption) | ((try simp (disch := first | omega | (simp only [szW] <;> omega) | fail) only [ceW]) <;> first | (with_reducible assumption) | rfl)))
    replace c_r3 : w2.cell? ⟨w.heap.size, 3, none⟩ = some (.slice none 0 0) := (hJ.cell (p := ⟨w.heap.size, 3, none⟩) (by (first | (with_reducible assumption) | omega | (simp only [szW] <;> omega) | (simp <;> omega)))).trans (by (first | (with_reducible assumption) | ((try simp (disch := first | omega | (simp only [szW] <;> omega) | fail) only [ceW]) <;> first | (with_reducible assumption) | rfl)))
    replace f_r3 : w2.frozen? ⟨w.heap.size, 3, none⟩ = false := (hJ.frozen (p := ⟨w.heap.size, 3, none⟩) (by (first | (with_reducible assumption) | omega | (simp only [szW] <;> omega) | (simp <;> omega)))).trans (by (first | (with_reducible assumption) | ((try simp (disch := first | omega | (simp only [szW] <;> omega) | fail) only [ceW]) <;> first | (with_reducible assumption) | rfl)))
    replace c_r4 : w2.cell? ⟨w.heap.size, 4, none⟩ = some (.slice none 0 0) := (hJ.cell (p := ⟨w.heap.size, 4, none⟩) (by (first | (with_reducible assumption) | omega | (simp only [szW] <;> omega) | (simp <;> omega)))).trans (by (first | (with_reducible assumption) | ((try simp (disch := first | omega | (simp only [szW] <;> omega) | fail) only [ceW]) <;> first | (with_reducible assumption) | rfl)))
    replace f_r4 : w2.frozen? ⟨w.heap.size, 4, none⟩ = false := (hJ.frozen (p := ⟨w.heap.size, 4, none⟩) (by (first | (with_reducible assumption) | omega | (simp only [szW] <;> omega) | (simp <;> omega)))).trans (by (first | (with_reducible assumption) | ((try simp (disch := first | omega | (simp only [szW] <;> omega) | fail) only [ceW]) <;> first | (with_reducible assumption) | rfl)))
    replace c_r5 : w2.cell? ⟨w.heap.size, 5, none⟩ = some (.int .u64 0) := (hJ.cell (p := ⟨w.heap.size, 5, none⟩) (by (first | (with_reducible assumption) | omega | (simp only [szW] <;> omega) | (simp <;> omega)))).trans (by (first | (with_reducible assumption) | ((try simp (disch := first | omega | (simp only [szW] <;> omega) | fail) only [ceW]) <;> first | (with_reducible assumption) | rfl)))
    replace f_r5 : w2.frozen? ⟨w.heap.size, 5, none⟩ = false := (hJ.frozen (p := ⟨w.heap.size, 5, none⟩) (by (first | (with_reducible assumption) | omega | (simp only [szW] <;> omega) | (simp <;> omega)))).trans (by (first | (with_reducible assumption) | ((try simp (disch := first | omega | (simp only [szW] <;> omega) | fail) only [ceW]) <;> first | (with_reducible assumption) | rfl)))
    replace z_r : w.heap.size < w2.heap.size := by omega
    have hB2 : Below w.heap.size w w2 := below_via hJ HS.out (by omega)
    clear hG p1 p2 p3 p4 hJ
    simp only [mixFrame, mixL, dstsOf, List.take_succ_cons, List.take_zero, List.filterMap_cons, List.filterMap_nil, List.contains_cons, List.contains_nil, Nat.reduceBEq, Bool.or_false, Bool.false_or, Bool.or_true, Bool.true_or, if_true, if_false, Bool.false_eq_true, Nat.reduceAdd, Nat.zero_add, List.drop_succ_cons, List.drop_zero, h18]
    go_wp2
    have HQ : Hid (∀ q, w.heap.size + 1 ≤ q → ((((((w2.setCell ⟨w.heap.size, 0, none⟩ (.int .i64 (zeroSl seg many nw nc).seg)).setCell ⟨w.heap.size, 1, none⟩ (.slice a1 (zeroSl seg many nw nc).ws.length c1)).setCell ⟨w.heap.size, 2, none⟩ (.slice a2 (zeroSl seg many nw nc).ks.length c2)).setCell ⟨w.heap.size, 3, none⟩ (.slice a3 (zeroSl seg many nw nc).vs.length c3)).setCell ⟨w.heap.size, 4, none⟩ (.slice a4 (zeroSl seg many nw nc).cs.length c4)).setCell ⟨w.heap.size, 5, none⟩ (.int .u64 (zeroSl seg many nw nc).laid)).heap[q]? = w2.heap[q]?) := Lib.hid fun q hq => by
      rw [heap_setCell_ne _ _ _ (by dsimp only; omega), heap_setCell_ne _ _ _ (by dsimp only; omega), heap_setCell_ne _ _ _ (by dsimp only; omega), heap_setCell_ne _ _ _ (by dsimp only; omega), heap_setCell_ne _ _ _ (by dsimp only; omega), heap_setCell_ne _ _ _ (by dsimp only; omega)]
    refine bodyPost_ret (results_c rfl rfl (run_loadVar_many _ Try.underlying29 rfl (by kernel_rfl) (six_set c_r0 c_r1 c_r2 c_r3 c_r4 c_r5))) rfl ⟨_, _, _, _, rfl, ?_, ?_, ?_, ?_, ?_⟩
    · exact owns_base (owns_heap HP1.out fun j hj => HQ.out j (by have := (HP1.out.lt j hj).1; omega)) (by omega)
    · exact owns_base (owns_heap HP2.out fun j hj => HQ.out j (by have := (HP2.out.lt j hj).1; omega)) (by omega)
    · exact owns_base (owns_heap HP3.out fun j hj => HQ.out j (by have := (HP3.out.lt j hj).1; omega)) (by omega)
    · exact owns_base (owns_heap HP4.out fun j hj => HQ.out j (by have := (HP4.out.lt j hj).1; omega)) (by omega)
    · exact (((((hB2.setCell (by dsimp only; omega) _).setCell (by dsimp only; omega) _).setCell (by dsimp only; omega) _).setCell (by dsimp only; omega) _).setCell (by dsimp only; omega) _).setCell (by dsimp only; omega) _
end Go.Proofs.Ytookgoidlnlckaa
