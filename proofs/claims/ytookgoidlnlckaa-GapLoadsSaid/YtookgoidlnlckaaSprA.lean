/- Merged: Ref08, LayW, Spr. -/
import Derived.Test.YtookgoidlnlckaaSlPut
import Derived.Deep.CutRange
import Derived.Test.YtookgoidlnlckaaPlc
import Derived.Test.YtookgoidlnlckaaFilA
import Derived.Test.YtookgoidlnlckaaEmpty04
import Derived.Test.YtookgoidlnlckaaConfA
import Derived.Test.YtookgoidlnlckaaPrsAll
namespace Go.Proofs.Ytookgoidlnlckaa
set_option linter.unusedVariables false
set_option linter.unusedSimpArgs false
section
open Go.RowKit Go.Shelf
attribute [local go_sem] Oper.semAt_some

set_option maxRecDepth 100000 in
set_option maxHeartbeats 1000000 in
theorem Spread08_core (w : World) (seg : Int) (wa ka va ca : Option Addr) (wc kc vc cc lw n lv lc : Nat) (laid : Int) (lo hi m : Nat) (ps : List Int) (la : Option Addr) (pl : Nat) (d : SlC) (hps : ps.length = m)
    (OF : Hid (∀ W, Below w.heap.size w W → Calls Try.prog 80 #[.int .i64 m, .int .i64 lo, .int .i64 hi] W (FreshInts W ps)))
    (FI : Hid (∀ W pa pc, Below w.heap.size w W → IsRow .i64 W pa ps → Calls Try.prog 79 #[.agg #[.int .i64 seg, .slice wa lw wc, .slice ka n kc, .slice va lv vc, .slice ca lc cc, .int .u64 laid], .int .i64 lo, .int .i64 hi, .slice pa m pc, .slice la m pl] W (FreshSl W d))) :
    Calls Try.prog 53 #[.agg #[.int .i64 seg, .slice wa lw wc, .slice ka n kc, .slice va lv vc, .slice ca lc cc, .int .u64 laid], .int .i64 lo, .int .i64 hi, .slice la m pl] w (FreshSl w d) := by
  have HPL := Lib.hid hps
  clear hps
  go_enter Try.func53, Try.ntmps53
  go_upto_region 1 with (fail)
  generalize hwz : (w.alloc (.cells #[.int .i64 seg, .slice wa lw wc, .slice ka n kc, .slice va lv vc, .slice ca lc cc, .int .u64 laid] 29)).alloc (.cells #[.int .i64 0, .slice none 0 0, .slice none 0 0, .slice none 0 0, .slice none 0 0, .int .u64 0] 29) = wz
  have c_t0 : wz.cell? ⟨w.heap.size, 0, none⟩ = some (.int .i64 seg) := by rw [← hwz]; (first | (with_reducible assumption) | ((simp only [World.frozen?_setCell, World.frozen?_drew, World.frozen?_drewN]) <;> (with_reducible assumption)) | ((repeat (first | (with_reducible assumption) | (with_reducible refine World.cell?_setCell_same _ _ _ (by with_reducible assumption)) | (rw [World.cell?_setCell_other _ _ _ _ (by intro e; simp at e; done)]) | (with_reducible refine cell_setCell_block ?_ ?_) | (rw [World.cell?_drew]) | (rw [World.cell?_drewN]) | (dsimp only; omega))); done) | (first | (with_reducible assumption) | ((try simp (disch := first | omega | (simp only [szW] <;> omega) | fail) only [ceW]) <;> first | (with_reducible assumption) | rfl)))
  have c_t1 : wz.cell? ⟨w.heap.size, 1, none⟩ = some (.slice wa lw wc) := by rw [← hwz]; (first | (with_reducible assumption) | ((simp only [World.frozen?_setCell, World.frozen?_drew, World.frozen?_drewN]) <;> (with_reducible assumption)) | ((repeat (first | (with_reducible assumption) | (with_reducible refine World.cell?_setCell_same _ _ _ (by with_reducible assumption)) | (rw [World.cell?_setCell_other _ _ _ _ (by intro e; simp at e; done)]) | (with_reducible refine cell_setCell_block ?_ ?_) | (rw [World.cell?_drew]) | (rw [World.cell?_drewN]) | (dsimp only; omega))); done) | (first | (with_reducible assumption) | ((try simp (disch := first | omega | (simp only [szW] <;> omega) | fail) only [ceW]) <;> first | (with_reducible assumption) | rfl)))
  have c_t2 : wz.cell? ⟨w.heap.size, 2, none⟩ = some (.slice ka n kc) := by rw [← hwz]; (first | (with_reducible assumption) | ((simp only [World.frozen?_setCell, World.frozen?_drew, World.frozen?_drewN]) <;> (with_reducible assumption)) | ((repeat (first | (with_reducible assumption) | (with_reducible refine World.cell?_setCell_same _ _ _ (by with_reducible assumption)) | (rw [World.cell?_setCell_other _ _ _ _ (by intro e; simp at e; done)]) | (with_reducible refine cell_setCell_block ?_ ?_) | (rw [World.cell?_drew]) | (rw [World.cell?_drewN]) | (dsimp only; omega))); done) | (first | (with_reducible assumption) | ((try simp (disch := first | omega | (simp only [szW] <;> omega) | fail) only [ceW]) <;> first | (with_reducible assumption) | rfl)))
  have c_t3 : wz.cell? ⟨w.heap.size, 3, none⟩ = some (.slice va lv vc) := by rw [← hwz]; (first | (with_reducible assumption) | ((simp only [World.frozen?_setCell, World.frozen?_drew, World.frozen?_drewN]) <;> (with_reducible assumption)) | ((repeat (first | (with_reducible assumption) | (with_reducible refine World.cell?_setCell_same _ _ _ (by with_reducible assumption)) | (rw [World.cell?_setCell_other _ _ _ _ (by intro e; simp at e; done)]) | (with_reducible refine cell_setCell_block ?_ ?_) | (rw [World.cell?_drew]) | (rw [World.cell?_drewN]) | (dsimp only; omega))); done) | (first | (with_reducible assumption) | ((try simp (disch := first | omega | (simp only [szW] <;> omega) | fail) only [ceW]) <;> first | (with_reducible assumption) | rfl)))
  have c_t4 : wz.cell? ⟨w.heap.size, 4, none⟩ = some (.slice ca lc cc) := by rw [← hwz]; (first | (with_reducible assumption) | ((simp only [World.frozen?_setCell, World.frozen?_drew, World.frozen?_drewN]) <;> (with_reducible assumption)) | ((repeat (first | (with_reducible assumption) | (with_reducible refine World.cell?_setCell_same _ _ _ (by with_reducible assumption)) | (rw [World.cell?_setCell_other _ _ _ _ (by intro e; simp at e; done)]) | (with_reducible refine cell_setCell_block ?_ ?_) | (rw [World.cell?_drew]) | (rw [World.cell?_drewN]) | (dsimp only; omega))); done) | (first | (with_reducible assumption) | ((try simp (disch := first | omega | (simp only [szW] <;> omega) | fail) only [ceW]) <;> first | (with_reducible assumption) | rfl)))
  have c_t5 : wz.cell? ⟨w.heap.size, 5, none⟩ = some (.int .u64 laid) := by rw [← hwz]; (first | (with_reducible assumption) | ((simp only [World.frozen?_setCell, World.frozen?_drew, World.frozen?_drewN]) <;> (with_reducible assumption)) | ((repeat (first | (with_reducible assumption) | (with_reducible refine World.cell?_setCell_same _ _ _ (by with_reducible assumption)) | (rw [World.cell?_setCell_other _ _ _ _ (by intro e; simp at e; done)]) | (with_reducible refine cell_setCell_block ?_ ?_) | (rw [World.cell?_drew]) | (rw [World.cell?_drewN]) | (dsimp only; omega))); done) | (first | (with_reducible assumption) | ((try simp (disch := first | omega | (simp only [szW] <;> omega) | fail) only [ceW]) <;> first | (with_reducible assumption) | rfl)))
  have z_t : w.heap.size < wz.heap.size := by rw [← hwz]; (first | (with_reducible assumption) | omega | (simp only [szW] <;> omega) | (simp <;> omega))
  have c_r0 : wz.cell? ⟨w.heap.size + 1, 0, none⟩ = some (.int .i64 0) := by rw [← hwz]; (first | (with_reducible assumption) | ((simp only [World.frozen?_setCell, World.frozen?_drew, World.frozen?_drewN]) <;> (with_reducible assumption)) | ((repeat (first | (with_reducible assumption) | (with_reducible refine World.cell?_setCell_same _ _ _ (by with_reducible assumption)) | (rw [World.cell?_setCell_other _ _ _ _ (by intro e; simp at e; done)]) | (with_reducible refine cell_setCell_block ?_ ?_) | (rw [World.cell?_drew]) | (rw [World.cell?_drewN]) | (dsimp only; omega))); done) | (first | (with_reducible assumption) | ((try simp (disch := first | omega | (simp only [szW] <;> omega) | fail) only [ceW]) <;> first | (with_reducible assumption) | rfl)))
  have f_r0 : wz.frozen? ⟨w.heap.size + 1, 0, none⟩ = false := by rw [← hwz]; (first | (with_reducible assumption) | ((simp only [World.frozen?_setCell, World.frozen?_drew, World.frozen?_drewN]) <;> (with_reducible assumption)) | ((repeat (first | (with_reducible assumption) | (with_reducible refine World.cell?_setCell_same _ _ _ (by with_reducible assumption)) | (rw [World.cell?_setCell_other _ _ _ _ (by intro e; simp at e; done)]) | (with_reducible refine cell_setCell_block ?_ ?_) | (rw [World.cell?_drew]) | (rw [World.cell?_drewN]) | (dsimp only; omega))); done) | (first | (with_reducible assumption) | ((try simp (disch := first | omega | (simp only [szW] <;> omega) | fail) only [ceW]) <;> first | (with_reducible assumption) | rfl)))
  have c_r1 : wz.cell? ⟨w.heap.size + 1, 1, none⟩ = some (.slice none 0 0) := by rw [← hwz]; (first | (with_reducible assumption) | ((simp only [World.frozen?_setCell, World.frozen?_drew, World.frozen?_drewN]) <;> (with_reducible assumption)) | ((repeat (first | (with_reducible assumption) | (with_reducible refine World.cell?_setCell_same _ _ _ (by with_reducible assumption)) | (rw [World.cell?_setCell_other _ _ _ _ (by intro e; simp at e; done)]) | (with_reducible refine cell_setCell_block ?_ ?_) | (rw [World.cell?_drew]) | (rw [World.cell?_drewN]) | (dsimp only; omega))); done) | (first | (with_reducible assumption) | ((try simp (disch := first | omega | (simp only [szW] <;> omega) | fail) only [ceW]) <;> first | (with_reducible assumption) | rfl)))
  have f_r1 : wz.frozen? ⟨w.heap.size + 1, 1, none⟩ = false := by rw [← hwz]; (first | (with_reducible assumption) | ((simp only [World.frozen?_setCell, World.frozen?_drew, World.frozen?_drewN]) <;> (with_reducible assumption)) | ((repeat (first | (with_reducible assumption) | (with_reducible refine World.cell?_setCell_same _ _ _ (by with_reducible assumption)) | (rw [World.cell?_setCell_other _ _ _ _ (by intro e; simp at e; done)]) | (with_reducible refine cell_setCell_block ?_ ?_) | (rw [World.cell?_drew]) | (rw [World.cell?_drewN]) | (dsimp only; omega))); done) | (first | (with_reducible assumption) | ((try simp (disch := first | omega | (simp only [szW] <;> omega) | fail) only [ceW]) <;> first | (with_reducible assumption) | rfl)))
  have c_r2 : wz.cell? ⟨w.heap.size + 1, 2, none⟩ = some (.slice none 0 0) := by rw [← hwz]; (first | (with_reducible assumption) | ((simp only [World.frozen?_setCell, World.frozen?_drew, World.frozen?_drewN]) <;> (with_reducible assumption)) | ((repeat (first | (with_reducible assumption) | (with_reducible refine World.cell?_setCell_same _ _ _ (by with_reducible assumption)) | (rw [World.cell?_setCell_other _ _ _ _ (by intro e; simp at e; done)]) | (with_reducible refine cell_setCell_block ?_ ?_) | (rw [World.cell?_drew]) | (rw [World.cell?_drewN]) | (dsimp only; omega))); done) | (first | (with_reducible assumption) | ((try simp (disch := first | omega | (simp only [szW] <;> omega) | fail) only [ceW]) <;> first | (with_reducible assumption) | rfl)))
  have f_r2 : wz.frozen? ⟨w.heap.size + 1, 2, none⟩ = false := by rw [← hwz]; (first | (with_reducible assumption) | ((simp only [World.frozen?_setCell, World.frozen?_drew, World.frozen?_drewN]) <;> (with_reducible assumption)) | ((repeat (first | (with_reducible assumption) | (with_reducible refine World.cell?_setCell_same _ _ _ (by with_reducible assumption)) | (rw [World.cell?_setCell_other _ _ _ _ (by intro e; simp at e; done)]) | (with_reducible refine cell_setCell_block ?_ ?_) | (rw [World.cell?_drew]) | (rw [World.cell?_drewN]) | (dsimp only; omega))); done) | (first | (with_reducible assumption) | ((try simp (disch := first | omega | (simp only [szW] <;> omega) | fail) only [ceW]) <;> first | (with_reducible assumption) | rfl)))
  have c_r3 : wz.cell? ⟨w.heap.size + 1, 3, none⟩ = some (.slice none 0 0) := by rw [← hwz]; (first | (with_reducible assumption) | ((simp only [World.frozen?_setCell, World.frozen?_drew, World.frozen?_drewN]) <;> (with_reducible assumption)) | ((repeat (first | (with_reducible assumption) | (with_reducible refine World.cell?_setCell_same _ _ _ (by with_reducible assumption)) | (rw [World.cell?_setCell_other _ _ _ _ (by intro e; simp at e; done)]) | (with_reducible refine cell_setCell_block ?_ ?_) | (rw [World.cell?_drew]) | (rw [World.cell?_drewN]) | (dsimp only; omega))); done) | (first | (with_reducible assumption) | ((try simp (disch := first | omega | (simp only [szW] <;> omega) | fail) only [ceW]) <;> first | (with_reducible assumption) | rfl)))
  have f_r3 : wz.frozen? ⟨w.heap.size + 1, 3, none⟩ = false := by rw [← hwz]; (first | (with_reducible assumption) | ((simp only [World.frozen?_setCell, World.frozen?_drew, World.frozen?_drewN]) <;> (with_reducible assumption)) | ((repeat (first | (with_reducible assumption) | (with_reducible refine World.cell?_setCell_same _ _ _ (by with_reducible assumption)) | (rw [World.cell?_setCell_other _ _ _ _ (by intro e; simp at e; done)]) | (with_reducible refine cell_setCell_block ?_ ?_) | (rw [World.cell?_drew]) | (rw [World.cell?_drewN]) | (dsimp only; omega))); done) | (first | (with_reducible assumption) | ((try simp (disch := first | omega | (simp only [szW] <;> omega) | fail) only [ceW]) <;> first | (with_reducible assumption) | rfl)))
  have c_r4 : wz.cell? ⟨w.heap.size + 1, 4, none⟩ = some (.slice none 0 0) := by rw [← hwz]; (first | (with_reducible assumption) | ((simp only [World.frozen?_setCell, World.frozen?_drew, World.frozen?_drewN]) <;> (with_reducible assumption)) | ((repeat (first | (with_reducible assumption) | (with_reducible refine World.cell?_setCell_same _ _ _ (by with_reducible assumption)) | (rw [World.cell?_setCell_other _ _ _ _ (by intro e; simp at e; done)]) | (with_reducible refine cell_setCell_block ?_ ?_) | (rw [World.cell?_drew]) | (rw [World.cell?_drewN]) | (dsimp only; omega))); done) | (first | (with_reducible assumption) | ((try simp (disch := first | omega | (simp only [szW] <;> omega) | fail) only [ceW]) <;> first | (with_reducible assumption) | rfl)))
  have f_r4 : wz.frozen? ⟨w.heap.size + 1, 4, none⟩ = false := by rw [← hwz]; (first | (with_reducible assumption) | ((simp only [World.frozen?_setCell, World.frozen?_drew, World.frozen?_drewN]) <;> (with_reducible assumption)) | ((repeat (first | (with_reducible assumption) | (with_reducible refine World.cell?_setCell_same _ _ _ (by with_reducible assumption)) | (rw [World.cell?_setCell_other _ _ _ _ (by intro e; simp at e; done)]) | (with_reducible refine cell_setCell_block ?_ ?_) | (rw [World.cell?_drew]) | (rw [World.cell?_drewN]) | (dsimp only; omega))); done) | (first | (with_reducible assumption) | ((try simp (disch := first | omega | (simp only [szW] <;> omega) | fail) only [ceW]) <;> first | (with_reducible assumption) | rfl)))
  have c_r5 : wz.cell? ⟨w.heap.size + 1, 5, none⟩ = some (.int .u64 0) := by rw [← hwz]; (first | (with_reducible assumption) | ((simp only [World.frozen?_setCell, World.frozen?_drew, World.frozen?_drewN]) <;> (with_reducible assumption)) | ((repeat (first | (with_reducible assumption) | (with_reducible refine World.cell?_setCell_same _ _ _ (by with_reducible assumption)) | (rw [World.cell?_setCell_other _ _ _ _ (by intro e; simp at e; done)]) | (with_reducible refine cell_setCell_block ?_ ?_) | (rw [World.cell?_drew]) | (rw [World.cell?_drewN]) | (dsimp only; omega))); done) | (first | (with_reducible assumption) | ((try simp (disch := first | omega | (simp only [szW] <;> omega) | fail) only [ceW]) <;> first | (with_reducible assumption) | rfl)))
  have f_r5 : wz.frozen? ⟨w.heap.size + 1, 5, none⟩ = false := by rw [← hwz]; (first | (with_reducible assumption) | ((simp only [World.frozen?_setCell, World.frozen?_drew, World.frozen?_drewN]) <;> (with_reducible assumption)) | ((repeat (first | (with_reducible assumption) | (with_reducible refine World.cell?_setCell_same _ _ _ (by with_reducible assumption)) | (rw [World.cell?_setCell_other _ _ _ _ (by intro e; simp at e; done)]) | (with_reducible refine cell_setCell_block ?_ ?_) | (rw [World.cell?_drew]) | (rw [World.cell?_drewN]) | (dsimp only; omega))); done) | (first | (with_reducible assumption) | ((try simp (disch := first | omega | (simp only [szW] <;> omega) | fail) only [ceW]) <;> first | (with_reducible assumption) | rfl)))
  have z_r : w.heap.size + 1 < wz.heap.size := by rw [← hwz]; (first | (with_reducible assumption) | omega | (simp only [szW] <;> omega) | (simp <;> omega))
  have HS : Hid (Below w.heap.size w wz) := by rw [← hwz]; exact Lib.hid (by (repeat (first | with_reducible (first | exact Below.refl _ _ | assumption | exact Hid.out (by assumption) | refine Below.alloc ?_ ?_ _ | refine Below.setCell ?_ ?_ _ | refine below_drewN ?_ _ | refine Below.drew ?_ | refine below_via (by assumption) ?_ ?_) | (first | (with_reducible assumption) | omega | (simp only [szW] <;> omega) | (simp <;> omega)))))
  have hz : w.heap.size + 2 = wz.heap.size := by rw [← hwz]; simp
  clear hwz
  refine wp_region_late 9 (by kernel_rfl) (N := 19) rfl (by kernel_rfl) (by kernel_rfl) (by decide) (fun w' => Below wz.heap.size wz w') RB (factRAt [.is (.agg #[.int .i64 seg, .slice wa lw wc, .slice ka n kc, .slice va lv vc, .slice ca lc cc, .int .u64 laid]), .is (.int .i64 lo), .is (.int .i64 hi), .is (.slice la m pl), .is (.int .i64 m), .is (.int .i64 lo), .is (.int .i64 hi), .row wz.heap.size 3 m (ps.map (Value.int .i64)), .is (.slice la m pl)]) (factRAt_stays _) (Below.refl _ _).drew ?steps ?fin
  case steps =>
    refine ⟨?o0, ?o1, ?o2, ?o3, ?o4, ?o5, ?o6, ?o7, ?o8, trivial⟩
    case o0 =>
      intro u a w' ev hJ hd K hK
      have e4 : a.tmps.getD 4 undef = .pointer (some ⟨w.heap.size, 0, none⟩) := ev 4 (by decide)
      have g0 := (hJ.cell (p := ⟨w.heap.size, 0, none⟩) (by dsimp only; omega)).trans c_t0
      have g1 := (hJ.cell (p := ⟨w.heap.size, 1, none⟩) (by dsimp only; omega)).trans c_t1
      have g2 := (hJ.cell (p := ⟨w.heap.size, 2, none⟩) (by dsimp only; omega)).trans c_t2
      have g3 := (hJ.cell (p := ⟨w.heap.size, 3, none⟩) (by dsimp only; omega)).trans c_t3
      have g4 := (hJ.cell (p := ⟨w.heap.size, 4, none⟩) (by dsimp only; omega)).trans c_t4
      have g5 := (hJ.cell (p := ⟨w.heap.size, 5, none⟩) (by dsimp only; omega)).trans c_t5
      have HK := Lib.hid hK
      clear hK ev hd
      go_simp
      exact HK.out _ _ (fun h => by cases h) hJ rfl (Below.refl _ _)
    case o1 =>
      intro u a w' ev hJ hd K hK
      have e1 : a.tmps.getD 1 undef = .int .i64 lo := ev 1 (by decide)
      have HK := Lib.hid hK
      clear hK ev hd
      go_simp
      exact HK.out _ _ (fun h => by cases h) hJ rfl (Below.refl _ _)
    case o2 =>
      intro u a w' ev hJ hd K hK
      have e2 : a.tmps.getD 2 undef = .int .i64 hi := ev 2 (by decide)
      have HK := Lib.hid hK
      clear hK ev hd
      go_simp
      exact HK.out _ _ (fun h => by cases h) hJ rfl (Below.refl _ _)
    case o3 =>
      intro u a w' ev hJ hd K hK
      have e3 : a.tmps.getD 3 undef = .slice la m pl := ev 3 (by decide)
      have HK := Lib.hid hK
      clear hK ev hd
      go_simp
      exact HK.out _ _ (fun h => by cases h) hJ rfl (Below.refl _ _)
    case o4 =>
      intro u a w' ev hJ hd K hK
      have e12 : a.tmps.getD 12 undef = .slice la m pl := (ev 12 (by decide)).trans (hd 3 _ (by kernel_rfl) rfl)
      have HK := Lib.hid hK
      clear hK ev hd
      go_simp
      exact HK.out _ _ (fun h => by cases h) hJ rfl (Below.refl _ _)
    case o5 =>
      intro u a w' ev hJ hd K hK
      have e1 : a.tmps.getD 1 undef = .int .i64 lo := ev 1 (by decide)
      have HK := Lib.hid hK
      clear hK ev hd
      go_simp
      exact HK.out _ _ (fun h => by cases h) hJ rfl (Below.refl _ _)
    case o6 =>
      intro u a w' ev hJ hd K hK
      have e2 : a.tmps.getD 2 undef = .int .i64 hi := ev 2 (by decide)
      have HK := Lib.hid hK
      clear hK ev hd
      go_simp
      exact HK.out _ _ (fun h => by cases h) hJ rfl (Below.refl _ _)
    case o7 =>
      intro u a w' ev hJ hd K hK
      have e13 : a.tmps.getD 13 undef = .int .i64 m := (ev 13 (by decide)).trans (hd 4 _ (by kernel_rfl) rfl)
      have e14 : a.tmps.getD 14 undef = .int .i64 lo := (ev 14 (by decide)).trans (hd 5 _ (by kernel_rfl) rfl)
      have e15 : a.tmps.getD 15 undef = .int .i64 hi := (ev 15 (by decide)).trans (hd 6 _ (by kernel_rfl) rfl)
      have HK := Lib.hid hK
      have HC := Lib.hid (OF.out w' (below_via hJ HS.out HS.out.size))
      have hzJ := hJ.size
      have HJ := Lib.hid hJ
      clear hK ev hd hJ
      go_simp
      refine HC.out.mono ?_
      rintro e w'' ⟨v, rfl, ho, hb⟩
      rw [HPL.out] at ho
      exact HK.out _ _ (fun h => by cases h) (HJ.out.trans (hb.mono hzJ)) (owns_base ho hzJ) hb
    case o8 =>
      intro u a w' ev hJ hd K hK
      have e3 : a.tmps.getD 3 undef = .slice la m pl := ev 3 (by decide)
      have HK := Lib.hid hK
      clear hK ev hd
      go_simp
      exact HK.out _ _ (fun h => by cases h) hJ rfl (Below.refl _ _)
  case fin =>
    intro u w2 hJ hG
    have h9 : u 9 = .agg #[.int .i64 seg, .slice wa lw wc, .slice ka n kc, .slice va lv vc, .slice ca lc cc, .int .u64 laid] := hG 0 _ rfl
    have h10 : u 10 = .int .i64 lo := hG 1 _ rfl
    have h11 : u 11 = .int .i64 hi := hG 2 _ rfl
    have h17 : u 17 = .slice la m pl := hG 8 _ rfl
    have ho : w2.ownsRow wz.heap.size 3 1 (u 16) m (ps.map (Value.int .i64)) := hG 7 _ rfl
    obtain ⟨pa, pc, h16, hi2, -⟩ := row_of_owns ho
    have HB2 := Lib.hid (below_via hJ HS.out HS.out.size)
    have HC := Lib.hid (FI.out w2 pa pc HB2.out hi2)
    have hz_w2 := hJ.size
    try simp only [World.size_alloc, World.size_setCell] at hz_w2
    have all_c : w2.cell? ⟨w.heap.size, 0, none⟩ = some (.int .i64 seg) ∧ w2.cell? ⟨w.heap.size, 1, none⟩ = some (.slice wa lw wc) ∧ w2.cell? ⟨w.heap.size, 2, none⟩ = some (.slice ka n kc) ∧ w2.cell? ⟨w.heap.size, 3, none⟩ = some (.slice va lv vc) ∧ w2.cell? ⟨w.heap.size, 4, none⟩ = some (.slice ca lc cc) ∧ w2.cell? ⟨w.heap.size, 5, none⟩ = some (.int .u64 laid) ∧ w2.cell? ⟨w.heap.size + 1, 0, none⟩ = some (.int .i64 0) ∧ w2.cell? ⟨w.heap.size + 1, 1, none⟩ = some (.slice none 0 0) ∧ w2.cell? ⟨w.heap.size + 1, 2, none⟩ = some (.slice none 0 0) ∧ w2.cell? ⟨w.heap.size + 1, 3, none⟩ = some (.slice none 0 0) ∧ w2.cell? ⟨w.heap.size + 1, 4, none⟩ = some (.slice none 0 0) ∧ w2.cell? ⟨w.heap.size + 1, 5, none⟩ = some (.int .u64 0) := by refine ⟨?_, ?_, ?_, ?_, ?_, ?_, ?_, ?_, ?_, ?_, ?_, ?_⟩ <;> (refine (hJ.cell ?_).trans ?_ <;> first | (first | (with_reducible assumption) | omega | (simp only [szW] <;> omega) | (simp <;> omega)) | (first | (with_reducible assumption) | ((try simp (disch := first | omega | (simp only [szW] <;> omega) | fail) only [ceW]) <;> first | (with_reducible assumption) | rfl)))
    have all_f : w2.frozen? ⟨w.heap.size + 1, 0, none⟩ = false ∧ w2.frozen? ⟨w.heap.size + 1, 1, none⟩ = false ∧ w2.frozen? ⟨w.heap.size + 1, 2, none⟩ = false ∧ w2.frozen? ⟨w.heap.size + 1, 3, none⟩ = false ∧ w2.frozen? ⟨w.heap.size + 1, 4, none⟩ = false ∧ w2.frozen? ⟨w.heap.size + 1, 5, none⟩ = false := by refine ⟨?_, ?_, ?_, ?_, ?_, ?_⟩ <;> (refine (hJ.frozen ?_).trans ?_ <;> first | (first | (with_reducible assumption) | omega | (simp only [szW] <;> omega) | (simp <;> omega)) | (first | (with_reducible assumption) | ((try simp (disch := first | omega | (simp only [szW] <;> omega) | fail) only [ceW]) <;> first | (with_reducible assumption) | rfl)))
    have all_z : w.heap.size < w2.heap.size ∧ w.heap.size + 1 < w2.heap.size := by refine ⟨?_, ?_⟩ <;> (omega)
    clear c_t0 c_t1 c_t2 c_t3 c_t4 c_t5 c_r0 c_r1 c_r2 c_r3 c_r4 c_r5 f_r0 f_r1 f_r2 f_r3 f_r4 f_r5 z_t z_r
    obtain ⟨c_t0, c_t1, c_t2, c_t3, c_t4, c_t5, c_r0, c_r1, c_r2, c_r3, c_r4, c_r5⟩ := all_c
    try clear all_c
    obtain ⟨f_r0, f_r1, f_r2, f_r3, f_r4, f_r5⟩ := all_f
    try clear all_f
    obtain ⟨z_t, z_r⟩ := all_z
    try clear all_z
    clear hG ho hJ hi2
    simp only [mixFrame, mixL, dstsOf, List.take_succ_cons, List.take_zero, List.filterMap_cons, List.filterMap_nil, List.contains_cons, List.contains_nil, Nat.reduceBEq, Bool.or_false, Bool.false_or, Bool.or_true, Bool.true_or, if_true, if_false, Bool.false_eq_true, Nat.reduceAdd, Nat.zero_add, List.drop_succ_cons, List.drop_zero, h9, h10, h11, h16, h17]
    go_wp2_with fail
    refine HC.out.mono ?_
    rintro e w3 ⟨v1, v2, v3, v4, rfl, p1, p2, p3, p4, hb3⟩
    have hz_w3 := hb3.size
    try simp only [World.size_alloc, World.size_setCell] at hz_w3
    have all_c : w3.cell? ⟨w.heap.size, 0, none⟩ = some (.int .i64 seg) ∧ w3.cell? ⟨w.heap.size, 1, none⟩ = some (.slice wa lw wc) ∧ w3.cell? ⟨w.heap.size, 2, none⟩ = some (.slice ka n kc) ∧ w3.cell? ⟨w.heap.size, 3, none⟩ = some (.slice va lv vc) ∧ w3.cell? ⟨w.heap.size, 4, none⟩ = some (.slice ca lc cc) ∧ w3.cell? ⟨w.heap.size, 5, none⟩ = some (.int .u64 laid) ∧ w3.cell? ⟨w.heap.size + 1, 0, none⟩ = some (.int .i64 0) ∧ w3.cell? ⟨w.heap.size + 1, 1, none⟩ = some (.slice none 0 0) ∧ w3.cell? ⟨w.heap.size + 1, 2, none⟩ = some (.slice none 0 0) ∧ w3.cell? ⟨w.heap.size + 1, 3, none⟩ = some (.slice none 0 0) ∧ w3.cell? ⟨w.heap.size + 1, 4, none⟩ = some (.slice none 0 0) ∧ w3.cell? ⟨w.heap.size + 1, 5, none⟩ = some (.int .u64 0) := by refine ⟨?_, ?_, ?_, ?_, ?_, ?_, ?_, ?_, ?_, ?_, ?_, ?_⟩ <;> (refine (hb3.cell ?_).trans ?_ <;> first | (first | (with_reducible assumption) | omega | (simp only [szW] <;> omega) | (simp <;> omega)) | (first | (with_reducible assumption) | ((try simp (disch := first | omega | (simp only [szW] <;> omega) | fail) only [ceW]) <;> first | (with_reducible assumption) | rfl)))
    have all_f : w3.frozen? ⟨w.heap.size + 1, 0, none⟩ = false ∧ w3.frozen? ⟨w.heap.size + 1, 1, none⟩ = false ∧ w3.frozen? ⟨w.heap.size + 1, 2, none⟩ = false ∧ w3.frozen? ⟨w.heap.size + 1, 3, none⟩ = false ∧ w3.frozen? ⟨w.heap.size + 1, 4, none⟩ = false ∧ w3.frozen? ⟨w.heap.size + 1, 5, none⟩ = false := by refine ⟨?_, ?_, ?_, ?_, ?_, ?_⟩ <;> (refine (hb3.frozen ?_).trans ?_ <;> first | (first | (with_reducible assumption) | omega | (simp only [szW] <;> omega) | (simp <;> omega)) | (first | (with_reducible assumption) | ((try simp (disch := first | omega | (simp only [szW] <;> omega) | fail) only [ceW]) <;> first | (with_reducible assumption) | rfl)))
    have all_z : w.heap.size < w3.heap.size ∧ w.heap.size + 1 < w3.heap.size := by refine ⟨?_, ?_⟩ <;> (omega)
    clear c_t0 c_t1 c_t2 c_t3 c_t4 c_t5 c_r0 c_r1 c_r2 c_r3 c_r4 c_r5 f_r0 f_r1 f_r2 f_r3 f_r4 f_r5 z_t z_r
    obtain ⟨c_t0, c_t1, c_t2, c_t3, c_t4, c_t5, c_r0, c_r1, c_r2, c_r3, c_r4, c_r5⟩ := all_c
    try clear all_c
    obtain ⟨f_r0, f_r1, f_r2, f_r3, f_r4, f_r5⟩ := all_f
    try clear all_f
    obtain ⟨z_t, z_r⟩ := all_z
    try clear all_z
    have HB3 := Lib.hid (below_via hb3 HB2.out HB2.out.size)
    have hz3 := HB2.out.size
    obtain ⟨a1, k1, rfl, -⟩ := owns_news p1
    obtain ⟨a2, k2, rfl, -⟩ := owns_news p2
    obtain ⟨a3, k3, rfl, -⟩ := owns_news p3
    obtain ⟨a4, k4, rfl, -⟩ := owns_news p4
    have HP1 := Lib.hid p1
    have HP2 := Lib.hid p2
    have HP3 := Lib.hid p3
    have HP4 := Lib.hid p4
    clear p1 p2 p3 p4
    clear hb3
    go_wp2
    have HQ : Hid (∀ q, q ≠ w.heap.size + 1 → ((((((w3.setCell ⟨w.heap.size + 1, 0, none⟩ (.int .i64 d.seg)).setCell ⟨w.heap.size + 1, 1, none⟩ (.slice a1 d.ws.length k1)).setCell ⟨w.heap.size + 1, 2, none⟩ (.slice a2 d.ks.length k2)).setCell ⟨w.heap.size + 1, 3, none⟩ (.slice a3 d.vs.length k3)).setCell ⟨w.heap.size + 1, 4, none⟩ (.slice a4 d.cs.length k4)).setCell ⟨w.heap.size + 1, 5, none⟩ (.int .u64 d.laid)).heap[q]? = w3.heap[q]?) := Lib.hid fun q hq => by
      rw [heap_setCell_ne _ _ _ hq, heap_setCell_ne _ _ _ hq, heap_setCell_ne _ _ _ hq, heap_setCell_ne _ _ _ hq, heap_setCell_ne _ _ _ hq, heap_setCell_ne _ _ _ hq]
    refine bodyPost_ret (results_c rfl rfl (run_loadVar_many _ Try.underlying29 rfl (by kernel_rfl) (six_set c_r0 c_r1 c_r2 c_r3 c_r4 c_r5))) rfl ⟨_, _, _, _, rfl, ?_, ?_, ?_, ?_, ?_⟩
    · exact owns_base (owns_heap HP1.out fun j hj => HQ.out _ (by have := (HP1.out.lt j hj).1; omega)) (by omega)
    · exact owns_base (owns_heap HP2.out fun j hj => HQ.out _ (by have := (HP2.out.lt j hj).1; omega)) (by omega)
    · exact owns_base (owns_heap HP3.out fun j hj => HQ.out _ (by have := (HP3.out.lt j hj).1; omega)) (by omega)
    · exact owns_base (owns_heap HP4.out fun j hj => HQ.out _ (by have := (HP4.out.lt j hj).1; omega)) (by omega)
    · exact (((((HB3.out.setCell (by dsimp only; omega) _).setCell (by dsimp only; omega) _).setCell (by dsimp only; omega) _).setCell (by dsimp only; omega) _).setCell (by dsimp only; omega) _).setCell (by dsimp only; omega) _
set_option maxRecDepth 100000 in
set_option maxHeartbeats 1000000 in
theorem Wide08_core (w : World) (seg : Int) (wa ka va ca : Option Addr) (wc kc vc cc lw n lv lc : Nat) (laid : Int) (size m : Nat) (la : Option Addr) (pl : Nat) (z d : SlC) (hz : z.seg = seg) (hzu : U64s z.ws)
    (EM : Hid (∀ W, Below w.heap.size w W → Calls Try.prog 52 #[.int .i64 seg, .int .i64 size] W (FreshSl W z)))
    (SP : Hid (∀ W sa, Below w.heap.size w W → SlIn W ⟨z.seg, z.ws, z.ks, z.vs, z.cs, laid⟩ sa → (sa.wa = none → sa.wc = 0) → (sa.ka = none → sa.kc = 0) → (sa.va = none → sa.vc = 0) → (sa.ca = none → sa.cc = 0) → Calls Try.prog 53 #[slV ⟨z.seg, z.ws, z.ks, z.vs, z.cs, laid⟩ sa, .int .i64 0, .int .i64 size, .slice la m pl] W (FreshSl W d))) :
    Calls Try.prog 31 #[.agg #[.int .i64 seg, .slice wa lw wc, .slice ka n kc, .slice va lv vc, .slice ca lc cc, .int .u64 laid], .int .i64 size, .slice la m pl] w (FreshSl w d) := by
  have HZ := Lib.hid hz
  clear hz
  go_enter Try.func31, Try.ntmps31
  go_wp2_with fail
  refine (EM.out _ (by (repeat (first | with_reducible (first | exact Below.refl _ _ | assumption | exact Hid.out (by assumption) | refine Below.alloc ?_ ?_ _ | refine Below.setCell ?_ ?_ _ | refine below_drewN ?_ _ | refine Below.drew ?_ | refine below_via (by assumption) ?_ ?_) | (first | (with_reducible assumption) | omega | (simp only [szW] <;> omega) | (simp <;> omega)))))).mono ?_
  rintro e w1 ⟨v1, v2, v3, v4, rfl, p1, p2, p3, p4, hb1⟩
  have hz_w1 := hb1.size
  try simp only [World.size_alloc, World.size_setCell] at hz_w1
  have all_c : w1.cell? ⟨w.heap.size, 0, none⟩ = some (.int .i64 seg) ∧ w1.cell? ⟨w.heap.size, 1, none⟩ = some (.slice wa lw wc) ∧ w1.cell? ⟨w.heap.size, 2, none⟩ = some (.slice ka n kc) ∧ w1.cell? ⟨w.heap.size, 3, none⟩ = some (.slice va lv vc) ∧ w1.cell? ⟨w.heap.size, 4, none⟩ = some (.slice ca lc cc) ∧ w1.cell? ⟨w.heap.size, 5, none⟩ = some (.int .u64 laid) ∧ w1.cell? ⟨w.heap.size + 1, 0, none⟩ = some (.int .i64 0) ∧ w1.cell? ⟨w.heap.size + 1, 1, none⟩ = some (.slice none 0 0) ∧ w1.cell? ⟨w.heap.size + 1, 2, none⟩ = some (.slice none 0 0) ∧ w1.cell? ⟨w.heap.size + 1, 3, none⟩ = some (.slice none 0 0) ∧ w1.cell? ⟨w.heap.size + 1, 4, none⟩ = some (.slice none 0 0) ∧ w1.cell? ⟨w.heap.size + 1, 5, none⟩ = some (.int .u64 0) := by refine ⟨?_, ?_, ?_, ?_, ?_, ?_, ?_, ?_, ?_, ?_, ?_, ?_⟩ <;> (refine (hb1.cell ?_).trans ?_ <;> first | (first | (with_reducible assumption) | omega | (simp only [szW] <;> omega) | (simp <;> omega)) | (first | (with_reducible assumption) | ((try simp (disch := first | omega | (simp only [szW] <;> omega) | fail) only [ceW]) <;> first | (with_reducible assumption) | rfl)))
  have all_f : w1.frozen? ⟨w.heap.size + 1, 0, none⟩ = false ∧ w1.frozen? ⟨w.heap.size + 1, 1, none⟩ = false ∧ w1.frozen? ⟨w.heap.size + 1, 2, none⟩ = false ∧ w1.frozen? ⟨w.heap.size + 1, 3, none⟩ = false ∧ w1.frozen? ⟨w.heap.size + 1, 4, none⟩ = false ∧ w1.frozen? ⟨w.heap.size + 1, 5, none⟩ = false := by refine ⟨?_, ?_, ?_, ?_, ?_, ?_⟩ <;> (refine (hb1.frozen ?_).trans ?_ <;> first | (first | (with_reducible assumption) | omega | (simp only [szW] <;> omega) | (simp <;> omega)) | (first | (with_reducible assumption) | ((try simp (disch := first | omega | (simp only [szW] <;> omega) | fail) only [ceW]) <;> first | (with_reducible assumption) | rfl)))
  have all_z : w.heap.size < w1.heap.size ∧ w.heap.size + 1 < w1.heap.size := by refine ⟨?_, ?_⟩ <;> (omega)
  obtain ⟨c_t0, c_t1, c_t2, c_t3, c_t4, c_t5, c_r0, c_r1, c_r2, c_r3, c_r4, c_r5⟩ := all_c
  try clear all_c
  obtain ⟨f_r0, f_r1, f_r2, f_r3, f_r4, f_r5⟩ := all_f
  try clear all_f
  obtain ⟨z_t, z_r⟩ := all_z
  try clear all_z
  have hB1 : Below w.heap.size w w1 := by (repeat (first | with_reducible (first | exact Below.refl _ _ | assumption | exact Hid.out (by assumption) | refine Below.alloc ?_ ?_ _ | refine Below.setCell ?_ ?_ _ | refine below_drewN ?_ _ | refine Below.drew ?_ | refine below_via (by assumption) ?_ ?_) | (first | (with_reducible assumption) | omega | (simp only [szW] <;> omega) | (simp <;> omega))))
  obtain ⟨a1, k1, rfl, i1, -, y1, -, -⟩ := row_of_owns p1
  obtain ⟨a2, k2, rfl, i2, -, y2, -, -⟩ := row_of_owns p2
  obtain ⟨a3, k3, rfl, i3, -, y3, -, -⟩ := row_of_owns p3
  obtain ⟨a4, k4, rfl, i4, -, y4, -, -⟩ := row_of_owns p4
  have HI := Lib.hid (show SlIn w1 ⟨z.seg, z.ws, z.ks, z.vs, z.cs, laid⟩ ⟨a1, a2, a3, a4, k1, k2, k3, k4⟩ from ⟨i1, i2, i3, i4, hzu⟩)
  have HY := Lib.hid (And.intro y1 (And.intro y2 (And.intro y3 y4)))
  have HB1 := Lib.hid hB1
  clear p1 p2 p3 p4 i1 i2 i3 i4 y1 y2 y3 y4 hb1 hB1 hzu
  go_upto_region 3 with (fail)
  generalize hw2 : w1.alloc (.cells #[.int .i64 z.seg, .slice a1 z.ws.length k1, .slice a2 z.ks.length k2, .slice a3 z.vs.length k3, .slice a4 z.cs.length k4, .int .u64 laid] 29) = w2
  replace c_t0 : w2.cell? ⟨w.heap.size, 0, none⟩ = some (.int .i64 seg) := by rw [← hw2]; (first | (with_reducible assumption) | ((simp only [World.frozen?_setCell, World.frozen?_drew, World.frozen?_drewN]) <;> (with_reducible assumption)) | ((repeat (first | (with_reducible assumption) | (with_reducible refine World.cell?_setCell_same _ _ _ (by with_reducible assumption)) | (rw [World.cell?_setCell_other _ _ _ _ (by intro e; simp at e; done)]) | (with_reducible refine cell_setCell_block ?_ ?_) | (rw [World.cell?_drew]) | (rw [World.cell?_drewN]) | (dsimp only; omega))); done) | (first | (with_reducible assumption) | ((try simp (disch := first | omega | (simp only [szW] <;> omega) | fail) only [ceW]) <;> first | (with_reducible assumption) | rfl)))
  replace c_t1 : w2.cell? ⟨w.heap.size, 1, none⟩ = some (.slice wa lw wc) := by rw [← hw2]; (first | (with_reducible assumption) | ((simp only [World.frozen?_setCell, World.frozen?_drew, World.frozen?_drewN]) <;> (with_reducible assumption)) | ((repeat (first | (with_reducible assumption) | (with_reducible refine World.cell?_setCell_same _ _ _ (by with_reducible assumption)) | (rw [World.cell?_setCell_other _ _ _ _ (by intro e; simp at e; done)]) | (with_reducible refine cell_setCell_block ?_ ?_) | (rw [World.cell?_drew]) | (rw [World.cell?_drewN]) | (dsimp only; omega))); done) | (first | (with_reducible assumption) | ((try simp (disch := first | omega | (simp only [szW] <;> omega) | fail) only [ceW]) <;> first | (with_reducible assumption) | rfl)))
  replace c_t2 : w2.cell? ⟨w.heap.size, 2, none⟩ = some (.slice ka n kc) := by rw [← hw2]; (first | (with_reducible assumption) | ((simp only [World.frozen?_setCell, World.frozen?_drew, World.frozen?_drewN]) <;> (with_reducible assumption)) | ((repeat (first | (with_reducible assumption) | (with_reducible refine World.cell?_setCell_same _ _ _ (by with_reducible assumption)) | (rw [World.cell?_setCell_other _ _ _ _ (by intro e; simp at e; done)]) | (with_reducible refine cell_setCell_block ?_ ?_) | (rw [World.cell?_drew]) | (rw [World.cell?_drewN]) | (dsimp only; omega))); done) | (first | (with_reducible assumption) | ((try simp (disch := first | omega | (simp only [szW] <;> omega) | fail) only [ceW]) <;> first | (with_reducible assumption) | rfl)))
  replace c_t3 : w2.cell? ⟨w.heap.size, 3, none⟩ = some (.slice va lv vc) := by rw [← hw2]; (first | (with_reducible assumption) | ((simp only [World.frozen?_setCell, World.frozen?_drew, World.frozen?_drewN]) <;> (with_reducible assumption)) | ((repeat (first | (with_reducible assumption) | (with_reducible refine World.cell?_setCell_same _ _ _ (by with_reducible assumption)) | (rw [World.cell?_setCell_other _ _ _ _ (by intro e; simp at e; done)]) | (with_reducible refine cell_setCell_block ?_ ?_) | (rw [World.cell?_drew]) | (rw [World.cell?_drewN]) | (dsimp only; omega))); done) | (first | (with_reducible assumption) | ((try simp (disch := first | omega | (simp only [szW] <;> omega) | fail) only [ceW]) <;> first | (with_reducible assumption) | rfl)))
  replace c_t4 : w2.cell? ⟨w.heap.size, 4, none⟩ = some (.slice ca lc cc) := by rw [← hw2]; (first | (with_reducible assumption) | ((simp only [World.frozen?_setCell, World.frozen?_drew, World.frozen?_drewN]) <;> (with_reducible assumption)) | ((repeat (first | (with_reducible assumption) | (with_reducible refine World.cell?_setCell_same _ _ _ (by with_reducible assumption)) | (rw [World.cell?_setCell_other _ _ _ _ (by intro e; simp at e; done)]) | (with_reducible refine cell_setCell_block ?_ ?_) | (rw [World.cell?_drew]) | (rw [World.cell?_drewN]) | (dsimp only; omega))); done) | (first | (with_reducible assumption) | ((try simp (disch := first | omega | (simp only [szW] <;> omega) | fail) only [ceW]) <;> first | (with_reducible assumption) | rfl)))
  replace c_t5 : w2.cell? ⟨w.heap.size, 5, none⟩ = some (.int .u64 laid) := by rw [← hw2]; (first | (with_reducible assumption) | ((simp only [World.frozen?_setCell, World.frozen?_drew, World.frozen?_drewN]) <;> (with_reducible assumption)) | ((repeat (first | (with_reducible assumption) | (with_reducible refine World.cell?_setCell_same _ _ _ (by with_reducible assumption)) | (rw [World.cell?_setCell_other _ _ _ _ (by intro e; simp at e; done)]) | (with_reducible refine cell_setCell_block ?_ ?_) | (rw [World.cell?_drew]) | (rw [World.cell?_drewN]) | (dsimp only; omega))); done) | (first | (with_reducible assumption) | ((try simp (disch := first | omega | (simp only [szW] <;> omega) | fail) only [ceW]) <;> first | (with_reducible assumption) | rfl)))
  replace z_t : w.heap.size < w2.heap.size := by rw [← hw2]; (first | (with_reducible assumption) | omega | (simp only [szW] <;> omega) | (simp <;> omega))
  replace c_r0 : w2.cell? ⟨w.heap.size + 1, 0, none⟩ = some (.int .i64 0) := by rw [← hw2]; (first | (with_reducible assumption) | ((simp only [World.frozen?_setCell, World.frozen?_drew, World.frozen?_drewN]) <;> (with_reducible assumption)) | ((repeat (first | (with_reducible assumption) | (with_reducible refine World.cell?_setCell_same _ _ _ (by with_reducible assumption)) | (rw [World.cell?_setCell_other _ _ _ _ (by intro e; simp at e; done)]) | (with_reducible refine cell_setCell_block ?_ ?_) | (rw [World.cell?_drew]) | (rw [World.cell?_drewN]) | (dsimp only; omega))); done) | (first | (with_reducible assumption) | ((try simp (disch := first | omega | (simp only [szW] <;> omega) | fail) only [ceW]) <;> first | (with_reducible assumption) | rfl)))
  replace f_r0 : w2.frozen? ⟨w.heap.size + 1, 0, none⟩ = false := by rw [← hw2]; (first | (with_reducible assumption) | ((simp only [World.frozen?_setCell, World.frozen?_drew, World.frozen?_drewN]) <;> (with_reducible assumption)) | ((repeat (first | (with_reducible assumption) | (with_reducible refine World.cell?_setCell_same _ _ _ (by with_reducible assumption)) | (rw [World.cell?_setCell_other _ _ _ _ (by intro e; simp at e; done)]) | (with_reducible refine cell_setCell_block ?_ ?_) | (rw [World.cell?_drew]) | (rw [World.cell?_drewN]) | (dsimp only; omega))); done) | (first | (with_reducible assumption) | ((try simp (disch := first | omega | (simp only [szW] <;> omega) | fail) only [ceW]) <;> first | (with_reducible assumption) | rfl)))
  replace c_r1 : w2.cell? ⟨w.heap.size + 1, 1, none⟩ = some (.slice none 0 0) := by rw [← hw2]; (first | (with_reducible assumption) | ((simp only [World.frozen?_setCell, World.frozen?_drew, World.frozen?_drewN]) <;> (with_reducible assumption)) | ((repeat (first | (with_reducible assumption) | (with_reducible refine World.cell?_setCell_same _ _ _ (by with_reducible assumption)) | (rw [World.cell?_setCell_other _ _ _ _ (by intro e; simp at e; done)]) | (with_reducible refine cell_setCell_block ?_ ?_) | (rw [World.cell?_drew]) | (rw [World.cell?_drewN]) | (dsimp only; omega))); done) | (first | (with_reducible assumption) | ((try simp (disch := first | omega | (simp only [szW] <;> omega) | fail) only [ceW]) <;> first | (with_reducible assumption) | rfl)))
  replace f_r1 : w2.frozen? ⟨w.heap.size + 1, 1, none⟩ = false := by rw [← hw2]; (first | (with_reducible assumption) | ((simp only [World.frozen?_setCell, World.frozen?_drew, World.frozen?_drewN]) <;> (with_reducible assumption)) | ((repeat (first | (with_reducible assumption) | (with_reducible refine World.cell?_setCell_same _ _ _ (by with_reducible assumption)) | (rw [World.cell?_setCell_other _ _ _ _ (by intro e; simp at e; done)]) | (with_reducible refine cell_setCell_block ?_ ?_) | (rw [World.cell?_drew]) | (rw [World.cell?_drewN]) | (dsimp only; omega))); done) | (first | (with_reducible assumption) | ((try simp (disch := first | omega | (simp only [szW] <;> omega) | fail) only [ceW]) <;> first | (with_reducible assumption) | rfl)))
  replace c_r2 : w2.cell? ⟨w.heap.size + 1, 2, none⟩ = some (.slice none 0 0) := by rw [← hw2]; (first | (with_reducible assumption) | ((simp only [World.frozen?_setCell, World.frozen?_drew, World.frozen?_drewN]) <;> (with_reducible assumption)) | ((repeat (first | (with_reducible assumption) | (with_reducible refine World.cell?_setCell_same _ _ _ (by with_reducible assumption)) | (rw [World.cell?_setCell_other _ _ _ _ (by intro e; simp at e; done)]) | (with_reducible refine cell_setCell_block ?_ ?_) | (rw [World.cell?_drew]) | (rw [World.cell?_drewN]) | (dsimp only; omega))); done) | (first | (with_reducible assumption) | ((try simp (disch := first | omega | (simp only [szW] <;> omega) | fail) only [ceW]) <;> first | (with_reducible assumption) | rfl)))
  replace f_r2 : w2.frozen? ⟨w.heap.size + 1, 2, none⟩ = false := by rw [← hw2]; (first | (with_reducible assumption) | ((simp only [World.frozen?_setCell, World.frozen?_drew, World.frozen?_drewN]) <;> (with_reducible assumption)) | ((repeat (first | (with_reducible assumption) | (with_reducible refine World.cell?_setCell_same _ _ _ (by with_reducible assumption)) | (rw [World.cell?_setCell_other _ _ _ _ (by intro e; simp at e; done)]) | (with_reducible refine cell_setCell_block ?_ ?_) | (rw [World.cell?_drew]) | (rw [World.cell?_drewN]) | (dsimp only; omega))); done) | (first | (with_reducible assumption) | ((try simp (disch := first | omega | (simp only [szW] <;> omega) | fail) only [ceW]) <;> first | (with_reducible assumption) | rfl)))
  replace c_r3 : w2.cell? ⟨w.heap.size + 1, 3, none⟩ = some (.slice none 0 0) := by rw [← hw2]; (first | (with_reducible assumption) | ((simp only [World.frozen?_setCell, World.frozen?_drew, World.frozen?_drewN]) <;> (with_reducible assumption)) | ((repeat (first | (with_reducible assumption) | (with_reducible refine World.cell?_setCell_same _ _ _ (by with_reducible assumption)) | (rw [World.cell?_setCell_other _ _ _ _ (by intro e; simp at e; done)]) | (with_reducible refine cell_setCell_block ?_ ?_) | (rw [World.cell?_drew]) | (rw [World.cell?_drewN]) | (dsimp only; omega))); done) | (first | (with_reducible assumption) | ((try simp (disch := first | omega | (simp only [szW] <;> omega) | fail) only [ceW]) <;> first | (with_reducible assumption) | rfl)))
  replace f_r3 : w2.frozen? ⟨w.heap.size + 1, 3, none⟩ = false := by rw [← hw2]; (first | (with_reducible assumption) | ((simp only [World.frozen?_setCell, World.frozen?_drew, World.frozen?_drewN]) <;> (with_reducible assumption)) | ((repeat (first | (with_reducible assumption) | (with_reducible refine World.cell?_setCell_same _ _ _ (by with_reducible assumption)) | (rw [World.cell?_setCell_other _ _ _ _ (by intro e; simp at e; done)]) | (with_reducible refine cell_setCell_block ?_ ?_) | (rw [World.cell?_drew]) | (rw [World.cell?_drewN]) | (dsimp only; omega))); done) | (first | (with_reducible assumption) | ((try simp (disch := first | omega | (simp only [szW] <;> omega) | fail) only [ceW]) <;> first | (with_reducible assumption) | rfl)))
  replace c_r4 : w2.cell? ⟨w.heap.size + 1, 4, none⟩ = some (.slice none 0 0) := by rw [← hw2]; (first | (with_reducible assumption) | ((simp only [World.frozen?_setCell, World.frozen?_drew, World.frozen?_drewN]) <;> (with_reducible assumption)) | ((repeat (first | (with_reducible assumption) | (with_reducible refine World.cell?_setCell_same _ _ _ (by with_reducible assumption)) | (rw [World.cell?_setCell_other _ _ _ _ (by intro e; simp at e; done)]) | (with_reducible refine cell_setCell_block ?_ ?_) | (rw [World.cell?_drew]) | (rw [World.cell?_drewN]) | (dsimp only; omega))); done) | (first | (with_reducible assumption) | ((try simp (disch := first | omega | (simp only [szW] <;> omega) | fail) only [ceW]) <;> first | (with_reducible assumption) | rfl)))
  replace f_r4 : w2.frozen? ⟨w.heap.size + 1, 4, none⟩ = false := by rw [← hw2]; (first | (with_reducible assumption) | ((simp only [World.frozen?_setCell, World.frozen?_drew, World.frozen?_drewN]) <;> (with_reducible assumption)) | ((repeat (first | (with_reducible assumption) | (with_reducible refine World.cell?_setCell_same _ _ _ (by with_reducible assumption)) | (rw [World.cell?_setCell_other _ _ _ _ (by intro e; simp at e; done)]) | (with_reducible refine cell_setCell_block ?_ ?_) | (rw [World.cell?_drew]) | (rw [World.cell?_drewN]) | (dsimp only; omega))); done) | (first | (with_reducible assumption) | ((try simp (disch := first | omega | (simp only [szW] <;> omega) | fail) only [ceW]) <;> first | (with_reducible assumption) | rfl)))
  replace c_r5 : w2.cell? ⟨w.heap.size + 1, 5, none⟩ = some (.int .u64 0) := by rw [← hw2]; (first | (with_reducible assumption) | ((simp only [World.frozen?_setCell, World.frozen?_drew, World.frozen?_drewN]) <;> (with_reducible assumption)) | ((repeat (first | (with_reducible assumption) | (with_reducible refine World.cell?_setCell_same _ _ _ (by with_reducible assumption)) | (rw [World.cell?_setCell_other _ _ _ _ (by intro e; simp at e; done)]) | (with_reducible refine cell_setCell_block ?_ ?_) | (rw [World.cell?_drew]) | (rw [World.cell?_drewN]) | (dsimp only; omega))); done) | (first | (with_reducible assumption) | ((try simp (disch := first | omega | (simp only [szW] <;> omega) | fail) only [ceW]) <;> first | (with_reducible assumption) | rfl)))
  replace f_r5 : w2.frozen? ⟨w.heap.size + 1, 5, none⟩ = false := by rw [← hw2]; (first | (with_reducible assumption) | ((simp only [World.frozen?_setCell, World.frozen?_drew, World.frozen?_drewN]) <;> (with_reducible assumption)) | ((repeat (first | (with_reducible assumption) | (with_reducible refine World.cell?_setCell_same _ _ _ (by with_reducible assumption)) | (rw [World.cell?_setCell_other _ _ _ _ (by intro e; simp at e; done)]) | (with_reducible refine cell_setCell_block ?_ ?_) | (rw [World.cell?_drew]) | (rw [World.cell?_drewN]) | (dsimp only; omega))); done) | (first | (with_reducible assumption) | ((try simp (disch := first | omega | (simp only [szW] <;> omega) | fail) only [ceW]) <;> first | (with_reducible assumption) | rfl)))
  replace z_r : w.heap.size + 1 < w2.heap.size := by rw [← hw2]; (first | (with_reducible assumption) | omega | (simp only [szW] <;> omega) | (simp <;> omega))
  have c_o0 : w2.cell? ⟨w1.heap.size, 0, none⟩ = some (.int .i64 z.seg) := by rw [← hw2]; (first | (with_reducible assumption) | ((simp only [World.frozen?_setCell, World.frozen?_drew, World.frozen?_drewN]) <;> (with_reducible assumption)) | ((repeat (first | (with_reducible assumption) | (with_reducible refine World.cell?_setCell_same _ _ _ (by with_reducible assumption)) | (rw [World.cell?_setCell_other _ _ _ _ (by intro e; simp at e; done)]) | (with_reducible refine cell_setCell_block ?_ ?_) | (rw [World.cell?_drew]) | (rw [World.cell?_drewN]) | (dsimp only; omega))); done) | (first | (with_reducible assumption) | ((try simp (disch := first | omega | (simp only [szW] <;> omega) | fail) only [ceW]) <;> first | (with_reducible assumption) | rfl)))
  have c_o1 : w2.cell? ⟨w1.heap.size, 1, none⟩ = some (.slice a1 z.ws.length k1) := by rw [← hw2]; (first | (with_reducible assumption) | ((simp only [World.frozen?_setCell, World.frozen?_drew, World.frozen?_drewN]) <;> (with_reducible assumption)) | ((repeat (first | (with_reducible assumption) | (with_reducible refine World.cell?_setCell_same _ _ _ (by with_reducible assumption)) | (rw [World.cell?_setCell_other _ _ _ _ (by intro e; simp at e; done)]) | (with_reducible refine cell_setCell_block ?_ ?_) | (rw [World.cell?_drew]) | (rw [World.cell?_drewN]) | (dsimp only; omega))); done) | (first | (with_reducible assumption) | ((try simp (disch := first | omega | (simp only [szW] <;> omega) | fail) only [ceW]) <;> first | (with_reducible assumption) | rfl)))
  have c_o2 : w2.cell? ⟨w1.heap.size, 2, none⟩ = some (.slice a2 z.ks.length k2) := by rw [← hw2]; (first | (with_reducible assumption) | ((simp only [World.frozen?_setCell, World.frozen?_drew, World.frozen?_drewN]) <;> (with_reducible assumption)) | ((repeat (first | (with_reducible assumption) | (with_reducible refine World.cell?_setCell_same _ _ _ (by with_reducible assumption)) | (rw [World.cell?_setCell_other _ _ _ _ (by intro e; simp at e; done)]) | (with_reducible refine cell_setCell_block ?_ ?_) | (rw [World.cell?_drew]) | (rw [World.cell?_drewN]) | (dsimp only; omega))); done) | (first | (with_reducible assumption) | ((try simp (disch := first | omega | (simp only [szW] <;> omega) | fail) only [ceW]) <;> first | (with_reducible assumption) | rfl)))
  have c_o3 : w2.cell? ⟨w1.heap.size, 3, none⟩ = some (.slice a3 z.vs.length k3) := by rw [← hw2]; (first | (with_reducible assumption) | ((simp only [World.frozen?_setCell, World.frozen?_drew, World.frozen?_drewN]) <;> (with_reducible assumption)) | ((repeat (first | (with_reducible assumption) | (with_reducible refine World.cell?_setCell_same _ _ _ (by with_reducible assumption)) | (rw [World.cell?_setCell_other _ _ _ _ (by intro e; simp at e; done)]) | (with_reducible refine cell_setCell_block ?_ ?_) | (rw [World.cell?_drew]) | (rw [World.cell?_drewN]) | (dsimp only; omega))); done) | (first | (with_reducible assumption) | ((try simp (disch := first | omega | (simp only [szW] <;> omega) | fail) only [ceW]) <;> first | (with_reducible assumption) | rfl)))
  have c_o4 : w2.cell? ⟨w1.heap.size, 4, none⟩ = some (.slice a4 z.cs.length k4) := by rw [← hw2]; (first | (with_reducible assumption) | ((simp only [World.frozen?_setCell, World.frozen?_drew, World.frozen?_drewN]) <;> (with_reducible assumption)) | ((repeat (first | (with_reducible assumption) | (with_reducible refine World.cell?_setCell_same _ _ _ (by with_reducible assumption)) | (rw [World.cell?_setCell_other _ _ _ _ (by intro e; simp at e; done)]) | (with_reducible refine cell_setCell_block ?_ ?_) | (rw [World.cell?_drew]) | (rw [World.cell?_drewN]) | (dsimp only; omega))); done) | (first | (with_reducible assumption) | ((try simp (disch := first | omega | (simp only [szW] <;> omega) | fail) only [ceW]) <;> first | (with_reducible assumption) | rfl)))
  have c_o5 : w2.cell? ⟨w1.heap.size, 5, none⟩ = some (.int .u64 laid) := by rw [← hw2]; (first | (with_reducible assumption) | ((simp only [World.frozen?_setCell, World.frozen?_drew, World.frozen?_drewN]) <;> (with_reducible assumption)) | ((repeat (first | (with_reducible assumption) | (with_reducible refine World.cell?_setCell_same _ _ _ (by with_reducible assumption)) | (rw [World.cell?_setCell_other _ _ _ _ (by intro e; simp at e; done)]) | (with_reducible refine cell_setCell_block ?_ ?_) | (rw [World.cell?_drew]) | (rw [World.cell?_drewN]) | (dsimp only; omega))); done) | (first | (with_reducible assumption) | ((try simp (disch := first | omega | (simp only [szW] <;> omega) | fail) only [ceW]) <;> first | (with_reducible assumption) | rfl)))
  have z_o : w1.heap.size < w2.heap.size := by rw [← hw2]; (first | (with_reducible assumption) | omega | (simp only [szW] <;> omega) | (simp <;> omega))
  have hb2 : Below w1.heap.size w1 w2 := by rw [← hw2]; exact (Below.refl _ _).alloc (Nat.le_refl _) _
  have HB2 := Lib.hid (below_via hb2 HB1.out HB1.out.size)
  have HC := Lib.hid (SP.out w2 ⟨a1, a2, a3, a4, k1, k2, k3, k4⟩ HB2.out (HI.out.below hb2) (fun e => (HY.out.1 e).2) (fun e => (HY.out.2.1 e).2) (fun e => (HY.out.2.2.1 e).2) (fun e => (HY.out.2.2.2 e).2))
  have hz2 := HB2.out.size
  have hz22 := z_r
  clear hw2 hb2
  dsimp only [slV] at HC
  go_wp2_with fail
  refine HC.out.mono ?_
  rintro e w3 ⟨v1, v2, v3, v4, rfl, p1, p2, p3, p4, hb3⟩
  have hz_w3 := hb3.size
  try simp only [World.size_alloc, World.size_setCell] at hz_w3
  have all_c : w3.cell? ⟨w.heap.size, 0, none⟩ = some (.int .i64 seg) ∧ w3.cell? ⟨w.heap.size, 1, none⟩ = some (.slice wa lw wc) ∧ w3.cell? ⟨w.heap.size, 2, none⟩ = some (.slice ka n kc) ∧ w3.cell? ⟨w.heap.size, 3, none⟩ = some (.slice va lv vc) ∧ w3.cell? ⟨w.heap.size, 4, none⟩ = some (.slice ca lc cc) ∧ w3.cell? ⟨w.heap.size, 5, none⟩ = some (.int .u64 laid) ∧ w3.cell? ⟨w.heap.size + 1, 0, none⟩ = some (.int .i64 0) ∧ w3.cell? ⟨w.heap.size + 1, 1, none⟩ = some (.slice none 0 0) ∧ w3.cell? ⟨w.heap.size + 1, 2, none⟩ = some (.slice none 0 0) ∧ w3.cell? ⟨w.heap.size + 1, 3, none⟩ = some (.slice none 0 0) ∧ w3.cell? ⟨w.heap.size + 1, 4, none⟩ = some (.slice none 0 0) ∧ w3.cell? ⟨w.heap.size + 1, 5, none⟩ = some (.int .u64 0) ∧ w3.cell? ⟨w1.heap.size, 0, none⟩ = some (.int .i64 z.seg) ∧ w3.cell? ⟨w1.heap.size, 1, none⟩ = some (.slice a1 z.ws.length k1) ∧ w3.cell? ⟨w1.heap.size, 2, none⟩ = some (.slice a2 z.ks.length k2) ∧ w3.cell? ⟨w1.heap.size, 3, none⟩ = some (.slice a3 z.vs.length k3) ∧ w3.cell? ⟨w1.heap.size, 4, none⟩ = some (.slice a4 z.cs.length k4) ∧ w3.cell? ⟨w1.heap.size, 5, none⟩ = some (.int .u64 laid) := by refine ⟨?_, ?_, ?_, ?_, ?_, ?_, ?_, ?_, ?_, ?_, ?_, ?_, ?_, ?_, ?_, ?_, ?_, ?_⟩ <;> (refine (hb3.cell ?_).trans ?_ <;> first | (first | (with_reducible assumption) | omega | (simp only [szW] <;> omega) | (simp <;> omega)) | (first | (with_reducible assumption) | ((try simp (disch := first | omega | (simp only [szW] <;> omega) | fail) only [ceW]) <;> first | (with_reducible assumption) | rfl)))
  have all_f : w3.frozen? ⟨w.heap.size + 1, 0, none⟩ = false ∧ w3.frozen? ⟨w.heap.size + 1, 1, none⟩ = false ∧ w3.frozen? ⟨w.heap.size + 1, 2, none⟩ = false ∧ w3.frozen? ⟨w.heap.size + 1, 3, none⟩ = false ∧ w3.frozen? ⟨w.heap.size + 1, 4, none⟩ = false ∧ w3.frozen? ⟨w.heap.size + 1, 5, none⟩ = false := by refine ⟨?_, ?_, ?_, ?_, ?_, ?_⟩ <;> (refine (hb3.frozen ?_).trans ?_ <;> first | (first | (with_reducible assumption) | omega | (simp only [szW] <;> omega) | (simp <;> omega)) | (first | (with_reducible assumption) | ((try simp (disch := first | omega | (simp only [szW] <;> omega) | fail) only [ceW]) <;> first | (with_reducible assumption) | rfl)))
  have all_z : w.heap.size < w3.heap.size ∧ w.heap.size + 1 < w3.heap.size ∧ w1.heap.size < w3.heap.size := by refine ⟨?_, ?_, ?_⟩ <;> (omega)
  clear c_t0 c_t1 c_t2 c_t3 c_t4 c_t5 c_r0 c_r1 c_r2 c_r3 c_r4 c_r5 c_o0 c_o1 c_o2 c_o3 c_o4 c_o5 f_r0 f_r1 f_r2 f_r3 f_r4 f_r5 z_t z_r z_o
  obtain ⟨c_t0, c_t1, c_t2, c_t3, c_t4, c_t5, c_r0, c_r1, c_r2, c_r3, c_r4, c_r5, c_o0, c_o1, c_o2, c_o3, c_o4, c_o5⟩ := all_c
  try clear all_c
  obtain ⟨f_r0, f_r1, f_r2, f_r3, f_r4, f_r5⟩ := all_f
  try clear all_f
  obtain ⟨z_t, z_r, z_o⟩ := all_z
  try clear all_z
  have HB3 := Lib.hid (below_via hb3 HB2.out hz2)
  obtain ⟨x1, y1, rfl, -⟩ := owns_news p1
  obtain ⟨x2, y2, rfl, -⟩ := owns_news p2
  obtain ⟨x3, y3, rfl, -⟩ := owns_news p3
  obtain ⟨x4, y4, rfl, -⟩ := owns_news p4
  have HP1 := Lib.hid p1
  have HP2 := Lib.hid p2
  have HP3 := Lib.hid p3
  have HP4 := Lib.hid p4
  clear p1 p2 p3 p4
  clear hb3
  go_wp2
  have HQ : Hid (∀ q, q ≠ w.heap.size + 1 → ((((((w3.setCell ⟨w.heap.size + 1, 0, none⟩ (.int .i64 d.seg)).setCell ⟨w.heap.size + 1, 1, none⟩ (.slice x1 d.ws.length y1)).setCell ⟨w.heap.size + 1, 2, none⟩ (.slice x2 d.ks.length y2)).setCell ⟨w.heap.size + 1, 3, none⟩ (.slice x3 d.vs.length y3)).setCell ⟨w.heap.size + 1, 4, none⟩ (.slice x4 d.cs.length y4)).setCell ⟨w.heap.size + 1, 5, none⟩ (.int .u64 d.laid)).heap[q]? = w3.heap[q]?) := Lib.hid fun q hq => by
    rw [heap_setCell_ne _ _ _ hq, heap_setCell_ne _ _ _ hq, heap_setCell_ne _ _ _ hq, heap_setCell_ne _ _ _ hq, heap_setCell_ne _ _ _ hq, heap_setCell_ne _ _ _ hq]
  refine bodyPost_ret (results_c rfl rfl (run_loadVar_many _ Try.underlying29 rfl (by kernel_rfl) (six_set c_r0 c_r1 c_r2 c_r3 c_r4 c_r5))) rfl ⟨_, _, _, _, rfl, ?_, ?_, ?_, ?_, ?_⟩
  · exact owns_base (owns_heap HP1.out fun j hj => HQ.out _ (by have := (HP1.out.lt j hj).1; omega)) (by omega)
  · exact owns_base (owns_heap HP2.out fun j hj => HQ.out _ (by have := (HP2.out.lt j hj).1; omega)) (by omega)
  · exact owns_base (owns_heap HP3.out fun j hj => HQ.out _ (by have := (HP3.out.lt j hj).1; omega)) (by omega)
  · exact owns_base (owns_heap HP4.out fun j hj => HQ.out _ (by have := (HP4.out.lt j hj).1; omega)) (by omega)
  · exact (((((HB3.out.setCell (by dsimp only; omega) _).setCell (by dsimp only; omega) _).setCell (by dsimp only; omega) _).setCell (by dsimp only; omega) _).setCell (by dsimp only; omega) _).setCell (by dsimp only; omega) _
end

section
open Go.RowKit Go.Shelf
attribute [local go_sem] Oper.semAt_some

set_option maxRecDepth 100000 in
set_option maxHeartbeats 1000000 in
theorem over_core (w : World) (seg : Int) (wa ka va ca : Option Addr) (wc kc vc cc lw n lv lc : Nat) (laid : Int) (lo hi m : Nat) (ps : List Int) (la : Option Addr) (pl : Nat) (d : SlC) (hps : ps.length = m)
    (CK : Hid (∀ W, Below w.heap.size w W → Calls Try.prog 21 #[.agg #[.int .i64 seg, .slice wa lw wc, .slice ka n kc, .slice va lv vc, .slice ca lc cc, .int .u64 laid]] W (AnsB W (.int .i64 0))))
    (PL : Hid (∀ W, Below w.heap.size w W → Calls Try.prog 44 #[.int .i64 m, .int .i64 lo, .int .i64 hi] W (FreshI2 W ps (.int .i64 0))))
    (FI : Hid (∀ W pa pc, Below w.heap.size w W → IsRow .i64 W pa ps → Calls Try.prog 45 #[.agg #[.int .i64 seg, .slice wa lw wc, .slice ka n kc, .slice va lv vc, .slice ca lc cc, .int .u64 laid], .int .i64 lo, .int .i64 hi, .slice pa m pc, .slice la m pl] W (FreshSl2 W d (.int .i64 0)))) :
    Calls Try.prog 28 #[.agg #[.int .i64 seg, .slice wa lw wc, .slice ka n kc, .slice va lv vc, .slice ca lc cc, .int .u64 laid], .int .i64 lo, .int .i64 hi, .slice la m pl] w (FreshSl2 w d (.int .i64 0)) := by
  have HPL := Lib.hid hps
  clear hps
  go_enter Try.func28, Try.ntmps28
  go_wp2
  refine wp_scope_loop 0 (fun _ _ _ => False) rfl (fun _ _ _ h => h.elim) ?_
  intro H hH hpass
  go_wp2_with fail
  refine (CK.out _ (by (repeat (first | with_reducible (first | exact Below.refl _ _ | assumption | exact Hid.out (by assumption) | refine Below.alloc ?_ ?_ _ | refine Below.setCell ?_ ?_ _ | refine below_drewN ?_ _ | refine Below.drew ?_ | refine below_via (by assumption) ?_ ?_) | (first | (with_reducible assumption) | omega | (simp only [szW] <;> omega) | (simp <;> omega)))))).mono ?_
  rintro e w1 ⟨rfl, hb1⟩
  have hz_w1 := hb1.size
  try simp only [World.size_alloc, World.size_setCell] at hz_w1
  have all_c : w1.cell? ⟨w.heap.size, 0, none⟩ = some (.int .i64 seg) ∧ w1.cell? ⟨w.heap.size, 1, none⟩ = some (.slice wa lw wc) ∧ w1.cell? ⟨w.heap.size, 2, none⟩ = some (.slice ka n kc) ∧ w1.cell? ⟨w.heap.size, 3, none⟩ = some (.slice va lv vc) ∧ w1.cell? ⟨w.heap.size, 4, none⟩ = some (.slice ca lc cc) ∧ w1.cell? ⟨w.heap.size, 5, none⟩ = some (.int .u64 laid) ∧ w1.cell? ⟨w.heap.size + 1, 0, none⟩ = some (.int .i64 0) ∧ w1.cell? ⟨w.heap.size + 1, 1, none⟩ = some (.slice none 0 0) ∧ w1.cell? ⟨w.heap.size + 1, 2, none⟩ = some (.slice none 0 0) ∧ w1.cell? ⟨w.heap.size + 1, 3, none⟩ = some (.slice none 0 0) ∧ w1.cell? ⟨w.heap.size + 1, 4, none⟩ = some (.slice none 0 0) ∧ w1.cell? ⟨w.heap.size + 1, 5, none⟩ = some (.int .u64 0) := by refine ⟨?_, ?_, ?_, ?_, ?_, ?_, ?_, ?_, ?_, ?_, ?_, ?_⟩ <;> (refine (hb1.cell ?_).trans ?_ <;> first | (first | (with_reducible assumption) | omega | (simp only [szW] <;> omega) | (simp <;> omega)) | (first | (with_reducible assumption) | ((try simp (disch := first | omega | (simp only [szW] <;> omega) | fail) only [ceW]) <;> first | (with_reducible assumption) | rfl)))
  have all_f : w1.frozen? ⟨w.heap.size + 1, 0, none⟩ = false ∧ w1.frozen? ⟨w.heap.size + 1, 1, none⟩ = false ∧ w1.frozen? ⟨w.heap.size + 1, 2, none⟩ = false ∧ w1.frozen? ⟨w.heap.size + 1, 3, none⟩ = false ∧ w1.frozen? ⟨w.heap.size + 1, 4, none⟩ = false ∧ w1.frozen? ⟨w.heap.size + 1, 5, none⟩ = false := by refine ⟨?_, ?_, ?_, ?_, ?_, ?_⟩ <;> (refine (hb1.frozen ?_).trans ?_ <;> first | (first | (with_reducible assumption) | omega | (simp only [szW] <;> omega) | (simp <;> omega)) | (first | (with_reducible assumption) | ((try simp (disch := first | omega | (simp only [szW] <;> omega) | fail) only [ceW]) <;> first | (with_reducible assumption) | rfl)))
  have all_z : w.heap.size < w1.heap.size ∧ w.heap.size + 1 < w1.heap.size := by refine ⟨?_, ?_⟩ <;> (omega)
  obtain ⟨c_t0, c_t1, c_t2, c_t3, c_t4, c_t5, c_r0, c_r1, c_r2, c_r3, c_r4, c_r5⟩ := all_c
  try clear all_c
  obtain ⟨f_r0, f_r1, f_r2, f_r3, f_r4, f_r5⟩ := all_f
  try clear all_f
  obtain ⟨z_t, z_r⟩ := all_z
  try clear all_z
  have hB1 : Below w.heap.size w w1 := by (repeat (first | with_reducible (first | exact Below.refl _ _ | assumption | exact Hid.out (by assumption) | refine Below.alloc ?_ ?_ _ | refine Below.setCell ?_ ?_ _ | refine below_drewN ?_ _ | refine Below.drew ?_ | refine below_via (by assumption) ?_ ?_) | (first | (with_reducible assumption) | omega | (simp only [szW] <;> omega) | (simp <;> omega))))
  have HB1 := Lib.hid hB1
  clear hb1 hB1
  go_wp2_with fail
  refine (PL.out _ HB1.out).mono ?_
  rintro e w2 ⟨v, rfl, ho, hb2⟩
  have hz_w2 := hb2.size
  try simp only [World.size_alloc, World.size_setCell] at hz_w2
  have all_c : w2.cell? ⟨w.heap.size, 0, none⟩ = some (.int .i64 seg) ∧ w2.cell? ⟨w.heap.size, 1, none⟩ = some (.slice wa lw wc) ∧ w2.cell? ⟨w.heap.size, 2, none⟩ = some (.slice ka n kc) ∧ w2.cell? ⟨w.heap.size, 3, none⟩ = some (.slice va lv vc) ∧ w2.cell? ⟨w.heap.size, 4, none⟩ = some (.slice ca lc cc) ∧ w2.cell? ⟨w.heap.size, 5, none⟩ = some (.int .u64 laid) ∧ w2.cell? ⟨w.heap.size + 1, 0, none⟩ = some (.int .i64 0) ∧ w2.cell? ⟨w.heap.size + 1, 1, none⟩ = some (.slice none 0 0) ∧ w2.cell? ⟨w.heap.size + 1, 2, none⟩ = some (.slice none 0 0) ∧ w2.cell? ⟨w.heap.size + 1, 3, none⟩ = some (.slice none 0 0) ∧ w2.cell? ⟨w.heap.size + 1, 4, none⟩ = some (.slice none 0 0) ∧ w2.cell? ⟨w.heap.size + 1, 5, none⟩ = some (.int .u64 0) := by refine ⟨?_, ?_, ?_, ?_, ?_, ?_, ?_, ?_, ?_, ?_, ?_, ?_⟩ <;> (refine (hb2.cell ?_).trans ?_ <;> first | (first | (with_reducible assumption) | omega | (simp only [szW] <;> omega) | (simp <;> omega)) | (first | (with_reducible assumption) | ((try simp (disch := first | omega | (simp only [szW] <;> omega) | fail) only [ceW]) <;> first | (with_reducible assumption) | rfl)))
  have all_f : w2.frozen? ⟨w.heap.size + 1, 0, none⟩ = false ∧ w2.frozen? ⟨w.heap.size + 1, 1, none⟩ = false ∧ w2.frozen? ⟨w.heap.size + 1, 2, none⟩ = false ∧ w2.frozen? ⟨w.heap.size + 1, 3, none⟩ = false ∧ w2.frozen? ⟨w.heap.size + 1, 4, none⟩ = false ∧ w2.frozen? ⟨w.heap.size + 1, 5, none⟩ = false := by refine ⟨?_, ?_, ?_, ?_, ?_, ?_⟩ <;> (refine (hb2.frozen ?_).trans ?_ <;> first | (first | (with_reducible assumption) | omega | (simp only [szW] <;> omega) | (simp <;> omega)) | (first | (with_reducible assumption) | ((try simp (disch := first | omega | (simp only [szW] <;> omega) | fail) only [ceW]) <;> first | (with_reducible assumption) | rfl)))
  have all_z : w.heap.size < w2.heap.size ∧ w.heap.size + 1 < w2.heap.size := by refine ⟨?_, ?_⟩ <;> (omega)
  clear c_t0 c_t1 c_t2 c_t3 c_t4 c_t5 c_r0 c_r1 c_r2 c_r3 c_r4 c_r5 f_r0 f_r1 f_r2 f_r3 f_r4 f_r5 z_t z_r
  obtain ⟨c_t0, c_t1, c_t2, c_t3, c_t4, c_t5, c_r0, c_r1, c_r2, c_r3, c_r4, c_r5⟩ := all_c
  try clear all_c
  obtain ⟨f_r0, f_r1, f_r2, f_r3, f_r4, f_r5⟩ := all_f
  try clear all_f
  obtain ⟨z_t, z_r⟩ := all_z
  try clear all_z
  have HB2 := Lib.hid (below_via hb2 HB1.out HB1.out.size)
  rw [HPL.out] at ho
  obtain ⟨pa, pc, rfl, hi2, -⟩ := row_of_owns ho
  have FC := Lib.hid (FI.out w2 pa pc HB2.out hi2)
  have hz2 := z_r
  clear hb2 ho hi2
  go_wp2_with fail
  refine (FC.out).mono ?_
  rintro e w3 ⟨v1, v2, v3, v4, rfl, p1, p2, p3, p4, hb3⟩
  have hz_w3 := hb3.size
  try simp only [World.size_alloc, World.size_setCell] at hz_w3
  have all_c : w3.cell? ⟨w.heap.size, 0, none⟩ = some (.int .i64 seg) ∧ w3.cell? ⟨w.heap.size, 1, none⟩ = some (.slice wa lw wc) ∧ w3.cell? ⟨w.heap.size, 2, none⟩ = some (.slice ka n kc) ∧ w3.cell? ⟨w.heap.size, 3, none⟩ = some (.slice va lv vc) ∧ w3.cell? ⟨w.heap.size, 4, none⟩ = some (.slice ca lc cc) ∧ w3.cell? ⟨w.heap.size, 5, none⟩ = some (.int .u64 laid) ∧ w3.cell? ⟨w.heap.size + 1, 0, none⟩ = some (.int .i64 0) ∧ w3.cell? ⟨w.heap.size + 1, 1, none⟩ = some (.slice none 0 0) ∧ w3.cell? ⟨w.heap.size + 1, 2, none⟩ = some (.slice none 0 0) ∧ w3.cell? ⟨w.heap.size + 1, 3, none⟩ = some (.slice none 0 0) ∧ w3.cell? ⟨w.heap.size + 1, 4, none⟩ = some (.slice none 0 0) ∧ w3.cell? ⟨w.heap.size + 1, 5, none⟩ = some (.int .u64 0) := by refine ⟨?_, ?_, ?_, ?_, ?_, ?_, ?_, ?_, ?_, ?_, ?_, ?_⟩ <;> (refine (hb3.cell ?_).trans ?_ <;> first | (first | (with_reducible assumption) | omega | (simp only [szW] <;> omega) | (simp <;> omega)) | (first | (with_reducible assumption) | ((try simp (disch := first | omega | (simp only [szW] <;> omega) | fail) only [ceW]) <;> first | (with_reducible assumption) | rfl)))
  have all_f : w3.frozen? ⟨w.heap.size + 1, 0, none⟩ = false ∧ w3.frozen? ⟨w.heap.size + 1, 1, none⟩ = false ∧ w3.frozen? ⟨w.heap.size + 1, 2, none⟩ = false ∧ w3.frozen? ⟨w.heap.size + 1, 3, none⟩ = false ∧ w3.frozen? ⟨w.heap.size + 1, 4, none⟩ = false ∧ w3.frozen? ⟨w.heap.size + 1, 5, none⟩ = false := by refine ⟨?_, ?_, ?_, ?_, ?_, ?_⟩ <;> (refine (hb3.frozen ?_).trans ?_ <;> first | (first | (with_reducible assumption) | omega | (simp only [szW] <;> omega) | (simp <;> omega)) | (first | (with_reducible assumption) | ((try simp (disch := first | omega | (simp only [szW] <;> omega) | fail) only [ceW]) <;> first | (with_reducible assumption) | rfl)))
  have all_z : w.heap.size < w3.heap.size ∧ w.heap.size + 1 < w3.heap.size := by refine ⟨?_, ?_⟩ <;> (omega)
  clear c_t0 c_t1 c_t2 c_t3 c_t4 c_t5 c_r0 c_r1 c_r2 c_r3 c_r4 c_r5 f_r0 f_r1 f_r2 f_r3 f_r4 f_r5 z_t z_r
  obtain ⟨c_t0, c_t1, c_t2, c_t3, c_t4, c_t5, c_r0, c_r1, c_r2, c_r3, c_r4, c_r5⟩ := all_c
  try clear all_c
  obtain ⟨f_r0, f_r1, f_r2, f_r3, f_r4, f_r5⟩ := all_f
  try clear all_f
  obtain ⟨z_t, z_r⟩ := all_z
  try clear all_z
  have HB3 := Lib.hid (below_via hb3 HB2.out HB2.out.size)
  obtain ⟨a1, k1, rfl, -⟩ := owns_news p1
  obtain ⟨a2, k2, rfl, -⟩ := owns_news p2
  obtain ⟨a3, k3, rfl, -⟩ := owns_news p3
  obtain ⟨a4, k4, rfl, -⟩ := owns_news p4
  have HP1 := Lib.hid p1
  have HP2 := Lib.hid p2
  have HP3 := Lib.hid p3
  have HP4 := Lib.hid p4
  clear p1 p2 p3 p4
  clear hb3
  go_upto_region 7 with (fail)
  have hsx := six_set (x := .int .i64 d.seg) (y := .slice a1 d.ws.length k1) (z := .slice a2 d.ks.length k2) (p := .slice a3 d.vs.length k3) (q := .slice a4 d.cs.length k4) (r := .int .u64 d.laid) c_r0 c_r1 c_r2 c_r3 c_r4 c_r5
  have hfz : ∀ a : Addr, ((((((w3.setCell ⟨w.heap.size + 1, 0, none⟩ (.int .i64 d.seg)).setCell ⟨w.heap.size + 1, 1, none⟩ (.slice a1 d.ws.length k1)).setCell ⟨w.heap.size + 1, 2, none⟩ (.slice a2 d.ks.length k2)).setCell ⟨w.heap.size + 1, 3, none⟩ (.slice a3 d.vs.length k3)).setCell ⟨w.heap.size + 1, 4, none⟩ (.slice a4 d.cs.length k4)).setCell ⟨w.heap.size + 1, 5, none⟩ (.int .u64 d.laid)).frozen? a = w3.frozen? a := fun a => by
    rw [World.frozen?_setCell, World.frozen?_setCell, World.frozen?_setCell, World.frozen?_setCell, World.frozen?_setCell, World.frozen?_setCell]
  have HQw4 : Hid (∀ q, q ≠ w.heap.size + 1 → ((((((w3.setCell ⟨w.heap.size + 1, 0, none⟩ (.int .i64 d.seg)).setCell ⟨w.heap.size + 1, 1, none⟩ (.slice a1 d.ws.length k1)).setCell ⟨w.heap.size + 1, 2, none⟩ (.slice a2 d.ks.length k2)).setCell ⟨w.heap.size + 1, 3, none⟩ (.slice a3 d.vs.length k3)).setCell ⟨w.heap.size + 1, 4, none⟩ (.slice a4 d.cs.length k4)).setCell ⟨w.heap.size + 1, 5, none⟩ (.int .u64 d.laid)).heap[q]? = w3.heap[q]?) := Lib.hid fun q hq => by
    rw [heap_setCell_ne _ _ _ hq, heap_setCell_ne _ _ _ hq, heap_setCell_ne _ _ _ hq, heap_setCell_ne _ _ _ hq, heap_setCell_ne _ _ _ hq, heap_setCell_ne _ _ _ hq]
  have hzw4 : ((((((w3.setCell ⟨w.heap.size + 1, 0, none⟩ (.int .i64 d.seg)).setCell ⟨w.heap.size + 1, 1, none⟩ (.slice a1 d.ws.length k1)).setCell ⟨w.heap.size + 1, 2, none⟩ (.slice a2 d.ks.length k2)).setCell ⟨w.heap.size + 1, 3, none⟩ (.slice a3 d.vs.length k3)).setCell ⟨w.heap.size + 1, 4, none⟩ (.slice a4 d.cs.length k4)).setCell ⟨w.heap.size + 1, 5, none⟩ (.int .u64 d.laid)).heap.size = w3.heap.size := by simp
  have HSw4 : Hid (Below w.heap.size w ((((((w3.setCell ⟨w.heap.size + 1, 0, none⟩ (.int .i64 d.seg)).setCell ⟨w.heap.size + 1, 1, none⟩ (.slice a1 d.ws.length k1)).setCell ⟨w.heap.size + 1, 2, none⟩ (.slice a2 d.ks.length k2)).setCell ⟨w.heap.size + 1, 3, none⟩ (.slice a3 d.vs.length k3)).setCell ⟨w.heap.size + 1, 4, none⟩ (.slice a4 d.cs.length k4)).setCell ⟨w.heap.size + 1, 5, none⟩ (.int .u64 d.laid))) := Lib.hid ((((((HB3.out.setCell (by dsimp only; omega) _).setCell (by dsimp only; omega) _).setCell (by dsimp only; omega) _).setCell (by dsimp only; omega) _).setCell (by dsimp only; omega) _).setCell (by dsimp only; omega) _)
  generalize ((((((w3.setCell ⟨w.heap.size + 1, 0, none⟩ (.int .i64 d.seg)).setCell ⟨w.heap.size + 1, 1, none⟩ (.slice a1 d.ws.length k1)).setCell ⟨w.heap.size + 1, 2, none⟩ (.slice a2 d.ks.length k2)).setCell ⟨w.heap.size + 1, 3, none⟩ (.slice a3 d.vs.length k3)).setCell ⟨w.heap.size + 1, 4, none⟩ (.slice a4 d.cs.length k4)).setCell ⟨w.heap.size + 1, 5, none⟩ (.int .u64 d.laid)) = w4 at *
  have s0 := hsx 0 _ rfl
  have s1 := hsx 1 _ rfl
  have s2 := hsx 2 _ rfl
  have s3 := hsx 3 _ rfl
  have s4 := hsx 4 _ rfl
  have s5 := hsx 5 _ rfl
  replace f_r0 := (hfz _).trans f_r0
  replace f_r1 := (hfz _).trans f_r1
  replace f_r2 := (hfz _).trans f_r2
  replace f_r3 := (hfz _).trans f_r3
  replace f_r4 := (hfz _).trans f_r4
  replace f_r5 := (hfz _).trans f_r5
  clear hsx hfz c_r0 c_r1 c_r2 c_r3 c_r4 c_r5
  go_wp2
  simp only [Exit.jump]
  refine bodyPost_ret (results_ct rfl rfl (run_loadVar_many _ Try.underlying29 rfl (by kernel_rfl) (six_set s0 s1 s2 s3 s4 s5))) rfl ⟨_, _, _, _, rfl, ?_, ?_, ?_, ?_, ?_⟩
  · exact owns_base (owns_heap HP1.out fun j hj => (by
      have h9 := (HP1.out.lt j hj).1
      rw [heap_setCell_ne _ _ _ (by dsimp only; omega), heap_setCell_ne _ _ _ (by dsimp only; omega), heap_setCell_ne _ _ _ (by dsimp only; omega), heap_setCell_ne _ _ _ (by dsimp only; omega), heap_setCell_ne _ _ _ (by dsimp only; omega), heap_setCell_ne _ _ _ (by dsimp only; omega)]
      exact HQw4.out _ (by omega))) (by omega)
  · exact owns_base (owns_heap HP2.out fun j hj => (by
      have h9 := (HP2.out.lt j hj).1
      rw [heap_setCell_ne _ _ _ (by dsimp only; omega), heap_setCell_ne _ _ _ (by dsimp only; omega), heap_setCell_ne _ _ _ (by dsimp only; omega), heap_setCell_ne _ _ _ (by dsimp only; omega), heap_setCell_ne _ _ _ (by dsimp only; omega), heap_setCell_ne _ _ _ (by dsimp only; omega)]
      exact HQw4.out _ (by omega))) (by omega)
  · exact owns_base (owns_heap HP3.out fun j hj => (by
      have h9 := (HP3.out.lt j hj).1
      rw [heap_setCell_ne _ _ _ (by dsimp only; omega), heap_setCell_ne _ _ _ (by dsimp only; omega), heap_setCell_ne _ _ _ (by dsimp only; omega), heap_setCell_ne _ _ _ (by dsimp only; omega), heap_setCell_ne _ _ _ (by dsimp only; omega), heap_setCell_ne _ _ _ (by dsimp only; omega)]
      exact HQw4.out _ (by omega))) (by omega)
  · exact owns_base (owns_heap HP4.out fun j hj => (by
      have h9 := (HP4.out.lt j hj).1
      rw [heap_setCell_ne _ _ _ (by dsimp only; omega), heap_setCell_ne _ _ _ (by dsimp only; omega), heap_setCell_ne _ _ _ (by dsimp only; omega), heap_setCell_ne _ _ _ (by dsimp only; omega), heap_setCell_ne _ _ _ (by dsimp only; omega), heap_setCell_ne _ _ _ (by dsimp only; omega)]
      exact HQw4.out _ (by omega))) (by omega)
  · exact (((((HSw4.out.setCell (by dsimp only; omega) _).setCell (by dsimp only; omega) _).setCell (by dsimp only; omega) _).setCell (by dsimp only; omega) _).setCell (by dsimp only; omega) _).setCell (by dsimp only; omega) _
set_option maxRecDepth 100000 in
set_option maxHeartbeats 1000000 in
theorem Into_core (w : World) (seg : Int) (wa ka va ca : Option Addr) (wc kc vc cc lw n lv lc : Nat) (laid : Int) (size m : Nat) (la : Option Addr) (pl : Nat) (z d : SlC) (hzu : U64s z.ws)
    (CK : Hid (∀ W, Below w.heap.size w W → Calls Try.prog 21 #[.agg #[.int .i64 seg, .slice wa lw wc, .slice ka n kc, .slice va lv vc, .slice ca lc cc, .int .u64 laid]] W (AnsB W (.int .i64 0))))
    (NW : Hid (∀ W, Below w.heap.size w W → Calls Try.prog 27 #[.int .i64 seg, .int .i64 size] W (FreshSl2 W z (.int .i64 0))))
    (OV : Hid (∀ W sa, Below w.heap.size w W → SlIn W ⟨z.seg, z.ws, z.ks, z.vs, z.cs, laid⟩ sa → (sa.wa = none → sa.wc = 0) → (sa.ka = none → sa.kc = 0) → (sa.va = none → sa.vc = 0) → (sa.ca = none → sa.cc = 0) → Calls Try.prog 28 #[slV ⟨z.seg, z.ws, z.ks, z.vs, z.cs, laid⟩ sa, .int .i64 0, .int .i64 size, .slice la m pl] W (FreshSl2 W d (.int .i64 0)))) :
    Calls Try.prog 13 #[.agg #[.int .i64 seg, .slice wa lw wc, .slice ka n kc, .slice va lv vc, .slice ca lc cc, .int .u64 laid], .int .i64 size, .slice la m pl] w (FreshSl2 w d (.int .i64 0)) := by
  go_enter Try.func13, Try.ntmps13
  go_wp2_with fail
  refine (CK.out _ (by (repeat (first | with_reducible (first | exact Below.refl _ _ | assumption | exact Hid.out (by assumption) | refine Below.alloc ?_ ?_ _ | refine Below.setCell ?_ ?_ _ | refine below_drewN ?_ _ | refine Below.drew ?_ | refine below_via (by assumption) ?_ ?_) | (first | (with_reducible assumption) | omega | (simp only [szW] <;> omega) | (simp <;> omega)))))).mono ?_
  rintro e w0 ⟨rfl, hb0⟩
  have hz_w0 := hb0.size
  try simp only [World.size_alloc, World.size_setCell] at hz_w0
  have all_c : w0.cell? ⟨w.heap.size, 0, none⟩ = some (.int .i64 seg) ∧ w0.cell? ⟨w.heap.size, 1, none⟩ = some (.slice wa lw wc) ∧ w0.cell? ⟨w.heap.size, 2, none⟩ = some (.slice ka n kc) ∧ w0.cell? ⟨w.heap.size, 3, none⟩ = some (.slice va lv vc) ∧ w0.cell? ⟨w.heap.size, 4, none⟩ = some (.slice ca lc cc) ∧ w0.cell? ⟨w.heap.size, 5, none⟩ = some (.int .u64 laid) ∧ w0.cell? ⟨w.heap.size + 1, 0, none⟩ = some (.int .i64 0) ∧ w0.cell? ⟨w.heap.size + 1, 1, none⟩ = some (.slice none 0 0) ∧ w0.cell? ⟨w.heap.size + 1, 2, none⟩ = some (.slice none 0 0) ∧ w0.cell? ⟨w.heap.size + 1, 3, none⟩ = some (.slice none 0 0) ∧ w0.cell? ⟨w.heap.size + 1, 4, none⟩ = some (.slice none 0 0) ∧ w0.cell? ⟨w.heap.size + 1, 5, none⟩ = some (.int .u64 0) := by refine ⟨?_, ?_, ?_, ?_, ?_, ?_, ?_, ?_, ?_, ?_, ?_, ?_⟩ <;> (refine (hb0.cell ?_).trans ?_ <;> first | (first | (with_reducible assumption) | omega | (simp only [szW] <;> omega) | (simp <;> omega)) | (first | (with_reducible assumption) | ((try simp (disch := first | omega | (simp only [szW] <;> omega) | fail) only [ceW]) <;> first | (with_reducible assumption) | rfl)))
  have all_f : w0.frozen? ⟨w.heap.size + 1, 0, none⟩ = false ∧ w0.frozen? ⟨w.heap.size + 1, 1, none⟩ = false ∧ w0.frozen? ⟨w.heap.size + 1, 2, none⟩ = false ∧ w0.frozen? ⟨w.heap.size + 1, 3, none⟩ = false ∧ w0.frozen? ⟨w.heap.size + 1, 4, none⟩ = false ∧ w0.frozen? ⟨w.heap.size + 1, 5, none⟩ = false := by refine ⟨?_, ?_, ?_, ?_, ?_, ?_⟩ <;> (refine (hb0.frozen ?_).trans ?_ <;> first | (first | (with_reducible assumption) | omega | (simp only [szW] <;> omega) | (simp <;> omega)) | (first | (with_reducible assumption) | ((try simp (disch := first | omega | (simp only [szW] <;> omega) | fail) only [ceW]) <;> first | (with_reducible assumption) | rfl)))
  have all_z : w.heap.size < w0.heap.size ∧ w.heap.size + 1 < w0.heap.size := by refine ⟨?_, ?_⟩ <;> (omega)
  obtain ⟨c_t0, c_t1, c_t2, c_t3, c_t4, c_t5, c_r0, c_r1, c_r2, c_r3, c_r4, c_r5⟩ := all_c
  try clear all_c
  obtain ⟨f_r0, f_r1, f_r2, f_r3, f_r4, f_r5⟩ := all_f
  try clear all_f
  obtain ⟨z_t, z_r⟩ := all_z
  try clear all_z
  have hB0 : Below w.heap.size w w0 := by (repeat (first | with_reducible (first | exact Below.refl _ _ | assumption | exact Hid.out (by assumption) | refine Below.alloc ?_ ?_ _ | refine Below.setCell ?_ ?_ _ | refine below_drewN ?_ _ | refine Below.drew ?_ | refine below_via (by assumption) ?_ ?_) | (first | (with_reducible assumption) | omega | (simp only [szW] <;> omega) | (simp <;> omega))))
  have HB0 := Lib.hid hB0
  clear hb0 hB0
  go_wp2_with fail
  refine (NW.out _ HB0.out).mono ?_
  rintro e w1 ⟨v1, v2, v3, v4, rfl, p1, p2, p3, p4, hb1⟩
  have hz_w1 := hb1.size
  try simp only [World.size_alloc, World.size_setCell] at hz_w1
  have all_c : w1.cell? ⟨w.heap.size, 0, none⟩ = some (.int .i64 seg) ∧ w1.cell? ⟨w.heap.size, 1, none⟩ = some (.slice wa lw wc) ∧ w1.cell? ⟨w.heap.size, 2, none⟩ = some (.slice ka n kc) ∧ w1.cell? ⟨w.heap.size, 3, none⟩ = some (.slice va lv vc) ∧ w1.cell? ⟨w.heap.size, 4, none⟩ = some (.slice ca lc cc) ∧ w1.cell? ⟨w.heap.size, 5, none⟩ = some (.int .u64 laid) ∧ w1.cell? ⟨w.heap.size + 1, 0, none⟩ = some (.int .i64 0) ∧ w1.cell? ⟨w.heap.size + 1, 1, none⟩ = some (.slice none 0 0) ∧ w1.cell? ⟨w.heap.size + 1, 2, none⟩ = some (.slice none 0 0) ∧ w1.cell? ⟨w.heap.size + 1, 3, none⟩ = some (.slice none 0 0) ∧ w1.cell? ⟨w.heap.size + 1, 4, none⟩ = some (.slice none 0 0) ∧ w1.cell? ⟨w.heap.size + 1, 5, none⟩ = some (.int .u64 0) := by refine ⟨?_, ?_, ?_, ?_, ?_, ?_, ?_, ?_, ?_, ?_, ?_, ?_⟩ <;> (refine (hb1.cell ?_).trans ?_ <;> first | (first | (with_reducible assumption) | omega | (simp only [szW] <;> omega) | (simp <;> omega)) | (first | (with_reducible assumption) | ((try simp (disch := first | omega | (simp only [szW] <;> omega) | fail) only [ceW]) <;> first | (with_reducible assumption) | rfl)))
  have all_f : w1.frozen? ⟨w.heap.size + 1, 0, none⟩ = false ∧ w1.frozen? ⟨w.heap.size + 1, 1, none⟩ = false ∧ w1.frozen? ⟨w.heap.size + 1, 2, none⟩ = false ∧ w1.frozen? ⟨w.heap.size + 1, 3, none⟩ = false ∧ w1.frozen? ⟨w.heap.size + 1, 4, none⟩ = false ∧ w1.frozen? ⟨w.heap.size + 1, 5, none⟩ = false := by refine ⟨?_, ?_, ?_, ?_, ?_, ?_⟩ <;> (refine (hb1.frozen ?_).trans ?_ <;> first | (first | (with_reducible assumption) | omega | (simp only [szW] <;> omega) | (simp <;> omega)) | (first | (with_reducible assumption) | ((try simp (disch := first | omega | (simp only [szW] <;> omega) | fail) only [ceW]) <;> first | (with_reducible assumption) | rfl)))
  have all_z : w.heap.size < w1.heap.size ∧ w.heap.size + 1 < w1.heap.size := by refine ⟨?_, ?_⟩ <;> (omega)
  clear c_t0 c_t1 c_t2 c_t3 c_t4 c_t5 c_r0 c_r1 c_r2 c_r3 c_r4 c_r5 f_r0 f_r1 f_r2 f_r3 f_r4 f_r5 z_t z_r
  obtain ⟨c_t0, c_t1, c_t2, c_t3, c_t4, c_t5, c_r0, c_r1, c_r2, c_r3, c_r4, c_r5⟩ := all_c
  try clear all_c
  obtain ⟨f_r0, f_r1, f_r2, f_r3, f_r4, f_r5⟩ := all_f
  try clear all_f
  obtain ⟨z_t, z_r⟩ := all_z
  try clear all_z
  obtain ⟨a1, k1, rfl, i1, -, y1, -, -⟩ := row_of_owns p1
  obtain ⟨a2, k2, rfl, i2, -, y2, -, -⟩ := row_of_owns p2
  obtain ⟨a3, k3, rfl, i3, -, y3, -, -⟩ := row_of_owns p3
  obtain ⟨a4, k4, rfl, i4, -, y4, -, -⟩ := row_of_owns p4
  have HI := Lib.hid (show SlIn w1 ⟨z.seg, z.ws, z.ks, z.vs, z.cs, laid⟩ ⟨a1, a2, a3, a4, k1, k2, k3, k4⟩ from ⟨i1, i2, i3, i4, hzu⟩)
  have HY := Lib.hid (And.intro y1 (And.intro y2 (And.intro y3 y4)))
  have HB1 := Lib.hid (below_via hb1 HB0.out HB0.out.size)
  clear p1 p2 p3 p4 i1 i2 i3 i4 y1 y2 y3 y4 hb1 hzu
  go_upto_region 8 with (fail)
  generalize hw2 : w1.alloc (.cells #[.int .i64 z.seg, .slice a1 z.ws.length k1, .slice a2 z.ks.length k2, .slice a3 z.vs.length k3, .slice a4 z.cs.length k4, .int .u64 laid] 29) = w2
  replace c_t0 : w2.cell? ⟨w.heap.size, 0, none⟩ = some (.int .i64 seg) := by rw [← hw2]; (first | (with_reducible assumption) | ((simp only [World.frozen?_setCell, World.frozen?_drew, World.frozen?_drewN]) <;> (with_reducible assumption)) | ((repeat (first | (with_reducible assumption) | (with_reducible refine World.cell?_setCell_same _ _ _ (by with_reducible assumption)) | (rw [World.cell?_setCell_other _ _ _ _ (by intro e; simp at e; done)]) | (with_reducible refine cell_setCell_block ?_ ?_) | (rw [World.cell?_drew]) | (rw [World.cell?_drewN]) | (dsimp only; omega))); done) | (first | (with_reducible assumption) | ((try simp (disch := first | omega | (simp only [szW] <;> omega) | fail) only [ceW]) <;> first | (with_reducible assumption) | rfl)))
  replace c_t1 : w2.cell? ⟨w.heap.size, 1, none⟩ = some (.slice wa lw wc) := by rw [← hw2]; (first | (with_reducible assumption) | ((simp only [World.frozen?_setCell, World.frozen?_drew, World.frozen?_drewN]) <;> (with_reducible assumption)) | ((repeat (first | (with_reducible assumption) | (with_reducible refine World.cell?_setCell_same _ _ _ (by with_reducible assumption)) | (rw [World.cell?_setCell_other _ _ _ _ (by intro e; simp at e; done)]) | (with_reducible refine cell_setCell_block ?_ ?_) | (rw [World.cell?_drew]) | (rw [World.cell?_drewN]) | (dsimp only; omega))); done) | (first | (with_reducible assumption) | ((try simp (disch := first | omega | (simp only [szW] <;> omega) | fail) only [ceW]) <;> first | (with_reducible assumption) | rfl)))
  replace c_t2 : w2.cell? ⟨w.heap.size, 2, none⟩ = some (.slice ka n kc) := by rw [← hw2]; (first | (with_reducible assumption) | ((simp only [World.frozen?_setCell, World.frozen?_drew, World.frozen?_drewN]) <;> (with_reducible assumption)) | ((repeat (first | (with_reducible assumption) | (with_reducible refine World.cell?_setCell_same _ _ _ (by with_reducible assumption)) | (rw [World.cell?_setCell_other _ _ _ _ (by intro e; simp at e; done)]) | (with_reducible refine cell_setCell_block ?_ ?_) | (rw [World.cell?_drew]) | (rw [World.cell?_drewN]) | (dsimp only; omega))); done) | (first | (with_reducible assumption) | ((try simp (disch := first | omega | (simp only [szW] <;> omega) | fail) only [ceW]) <;> first | (with_reducible assumption) | rfl)))
  replace c_t3 : w2.cell? ⟨w.heap.size, 3, none⟩ = some (.slice va lv vc) := by rw [← hw2]; (first | (with_reducible assumption) | ((simp only [World.frozen?_setCell, World.frozen?_drew, World.frozen?_drewN]) <;> (with_reducible assumption)) | ((repeat (first | (with_reducible assumption) | (with_reducible refine World.cell?_setCell_same _ _ _ (by with_reducible assumption)) | (rw [World.cell?_setCell_other _ _ _ _ (by intro e; simp at e; done)]) | (with_reducible refine cell_setCell_block ?_ ?_) | (rw [World.cell?_drew]) | (rw [World.cell?_drewN]) | (dsimp only; omega))); done) | (first | (with_reducible assumption) | ((try simp (disch := first | omega | (simp only [szW] <;> omega) | fail) only [ceW]) <;> first | (with_reducible assumption) | rfl)))
  replace c_t4 : w2.cell? ⟨w.heap.size, 4, none⟩ = some (.slice ca lc cc) := by rw [← hw2]; (first | (with_reducible assumption) | ((simp only [World.frozen?_setCell, World.frozen?_drew, World.frozen?_drewN]) <;> (with_reducible assumption)) | ((repeat (first | (with_reducible assumption) | (with_reducible refine World.cell?_setCell_same _ _ _ (by with_reducible assumption)) | (rw [World.cell?_setCell_other _ _ _ _ (by intro e; simp at e; done)]) | (with_reducible refine cell_setCell_block ?_ ?_) | (rw [World.cell?_drew]) | (rw [World.cell?_drewN]) | (dsimp only; omega))); done) | (first | (with_reducible assumption) | ((try simp (disch := first | omega | (simp only [szW] <;> omega) | fail) only [ceW]) <;> first | (with_reducible assumption) | rfl)))
  replace c_t5 : w2.cell? ⟨w.heap.size, 5, none⟩ = some (.int .u64 laid) := by rw [← hw2]; (first | (with_reducible assumption) | ((simp only [World.frozen?_setCell, World.frozen?_drew, World.frozen?_drewN]) <;> (with_reducible assumption)) | ((repeat (first | (with_reducible assumption) | (with_reducible refine World.cell?_setCell_same _ _ _ (by with_reducible assumption)) | (rw [World.cell?_setCell_other _ _ _ _ (by intro e; simp at e; done)]) | (with_reducible refine cell_setCell_block ?_ ?_) | (rw [World.cell?_drew]) | (rw [World.cell?_drewN]) | (dsimp only; omega))); done) | (first | (with_reducible assumption) | ((try simp (disch := first | omega | (simp only [szW] <;> omega) | fail) only [ceW]) <;> first | (with_reducible assumption) | rfl)))
  replace z_t : w.heap.size < w2.heap.size := by rw [← hw2]; (first | (with_reducible assumption) | omega | (simp only [szW] <;> omega) | (simp <;> omega))
  replace c_r0 : w2.cell? ⟨w.heap.size + 1, 0, none⟩ = some (.int .i64 0) := by rw [← hw2]; (first | (with_reducible assumption) | ((simp only [World.frozen?_setCell, World.frozen?_drew, World.frozen?_drewN]) <;> (with_reducible assumption)) | ((repeat (first | (with_reducible assumption) | (with_reducible refine World.cell?_setCell_same _ _ _ (by with_reducible assumption)) | (rw [World.cell?_setCell_other _ _ _ _ (by intro e; simp at e; done)]) | (with_reducible refine cell_setCell_block ?_ ?_) | (rw [World.cell?_drew]) | (rw [World.cell?_drewN]) | (dsimp only; omega))); done) | (first | (with_reducible assumption) | ((try simp (disch := first | omega | (simp only [szW] <;> omega) | fail) only [ceW]) <;> first | (with_reducible assumption) | rfl)))
  replace f_r0 : w2.frozen? ⟨w.heap.size + 1, 0, none⟩ = false := by rw [← hw2]; (first | (with_reducible assumption) | ((simp only [World.frozen?_setCell, World.frozen?_drew, World.frozen?_drewN]) <;> (with_reducible assumption)) | ((repeat (first | (with_reducible assumption) | (with_reducible refine World.cell?_setCell_same _ _ _ (by with_reducible assumption)) | (rw [World.cell?_setCell_other _ _ _ _ (by intro e; simp at e; done)]) | (with_reducible refine cell_setCell_block ?_ ?_) | (rw [World.cell?_drew]) | (rw [World.cell?_drewN]) | (dsimp only; omega))); done) | (first | (with_reducible assumption) | ((try simp (disch := first | omega | (simp only [szW] <;> omega) | fail) only [ceW]) <;> first | (with_reducible assumption) | rfl)))
  replace c_r1 : w2.cell? ⟨w.heap.size + 1, 1, none⟩ = some (.slice none 0 0) := by rw [← hw2]; (first | (with_reducible assumption) | ((simp only [World.frozen?_setCell, World.frozen?_drew, World.frozen?_drewN]) <;> (with_reducible assumption)) | ((repeat (first | (with_reducible assumption) | (with_reducible refine World.cell?_setCell_same _ _ _ (by with_reducible assumption)) | (rw [World.cell?_setCell_other _ _ _ _ (by intro e; simp at e; done)]) | (with_reducible refine cell_setCell_block ?_ ?_) | (rw [World.cell?_drew]) | (rw [World.cell?_drewN]) | (dsimp only; omega))); done) | (first | (with_reducible assumption) | ((try simp (disch := first | omega | (simp only [szW] <;> omega) | fail) only [ceW]) <;> first | (with_reducible assumption) | rfl)))
  replace f_r1 : w2.frozen? ⟨w.heap.size + 1, 1, none⟩ = false := by rw [← hw2]; (first | (with_reducible assumption) | ((simp only [World.frozen?_setCell, World.frozen?_drew, World.frozen?_drewN]) <;> (with_reducible assumption)) | ((repeat (first | (with_reducible assumption) | (with_reducible refine World.cell?_setCell_same _ _ _ (by with_reducible assumption)) | (rw [World.cell?_setCell_other _ _ _ _ (by intro e; simp at e; done)]) | (with_reducible refine cell_setCell_block ?_ ?_) | (rw [World.cell?_drew]) | (rw [World.cell?_drewN]) | (dsimp only; omega))); done) | (first | (with_reducible assumption) | ((try simp (disch := first | omega | (simp only [szW] <;> omega) | fail) only [ceW]) <;> first | (with_reducible assumption) | rfl)))
  replace c_r2 : w2.cell? ⟨w.heap.size + 1, 2, none⟩ = some (.slice none 0 0) := by rw [← hw2]; (first | (with_reducible assumption) | ((simp only [World.frozen?_setCell, World.frozen?_drew, World.frozen?_drewN]) <;> (with_reducible assumption)) | ((repeat (first | (with_reducible assumption) | (with_reducible refine World.cell?_setCell_same _ _ _ (by with_reducible assumption)) | (rw [World.cell?_setCell_other _ _ _ _ (by intro e; simp at e; done)]) | (with_reducible refine cell_setCell_block ?_ ?_) | (rw [World.cell?_drew]) | (rw [World.cell?_drewN]) | (dsimp only; omega))); done) | (first | (with_reducible assumption) | ((try simp (disch := first | omega | (simp only [szW] <;> omega) | fail) only [ceW]) <;> first | (with_reducible assumption) | rfl)))
  replace f_r2 : w2.frozen? ⟨w.heap.size + 1, 2, none⟩ = false := by rw [← hw2]; (first | (with_reducible assumption) | ((simp only [World.frozen?_setCell, World.frozen?_drew, World.frozen?_drewN]) <;> (with_reducible assumption)) | ((repeat (first | (with_reducible assumption) | (with_reducible refine World.cell?_setCell_same _ _ _ (by with_reducible assumption)) | (rw [World.cell?_setCell_other _ _ _ _ (by intro e; simp at e; done)]) | (with_reducible refine cell_setCell_block ?_ ?_) | (rw [World.cell?_drew]) | (rw [World.cell?_drewN]) | (dsimp only; omega))); done) | (first | (with_reducible assumption) | ((try simp (disch := first | omega | (simp only [szW] <;> omega) | fail) only [ceW]) <;> first | (with_reducible assumption) | rfl)))
  replace c_r3 : w2.cell? ⟨w.heap.size + 1, 3, none⟩ = some (.slice none 0 0) := by rw [← hw2]; (first | (with_reducible assumption) | ((simp only [World.frozen?_setCell, World.frozen?_drew, World.frozen?_drewN]) <;> (with_reducible assumption)) | ((repeat (first | (with_reducible assumption) | (with_reducible refine World.cell?_setCell_same _ _ _ (by with_reducible assumption)) | (rw [World.cell?_setCell_other _ _ _ _ (by intro e; simp at e; done)]) | (with_reducible refine cell_setCell_block ?_ ?_) | (rw [World.cell?_drew]) | (rw [World.cell?_drewN]) | (dsimp only; omega))); done) | (first | (with_reducible assumption) | ((try simp (disch := first | omega | (simp only [szW] <;> omega) | fail) only [ceW]) <;> first | (with_reducible assumption) | rfl)))
  replace f_r3 : w2.frozen? ⟨w.heap.size + 1, 3, none⟩ = false := by rw [← hw2]; (first | (with_reducible assumption) | ((simp only [World.frozen?_setCell, World.frozen?_drew, World.frozen?_drewN]) <;> (with_reducible assumption)) | ((repeat (first | (with_reducible assumption) | (with_reducible refine World.cell?_setCell_same _ _ _ (by with_reducible assumption)) | (rw [World.cell?_setCell_other _ _ _ _ (by intro e; simp at e; done)]) | (with_reducible refine cell_setCell_block ?_ ?_) | (rw [World.cell?_drew]) | (rw [World.cell?_drewN]) | (dsimp only; omega))); done) | (first | (with_reducible assumption) | ((try simp (disch := first | omega | (simp only [szW] <;> omega) | fail) only [ceW]) <;> first | (with_reducible assumption) | rfl)))
  replace c_r4 : w2.cell? ⟨w.heap.size + 1, 4, none⟩ = some (.slice none 0 0) := by rw [← hw2]; (first | (with_reducible assumption) | ((simp only [World.frozen?_setCell, World.frozen?_drew, World.frozen?_drewN]) <;> (with_reducible assumption)) | ((repeat (first | (with_reducible assumption) | (with_reducible refine World.cell?_setCell_same _ _ _ (by with_reducible assumption)) | (rw [World.cell?_setCell_other _ _ _ _ (by intro e; simp at e; done)]) | (with_reducible refine cell_setCell_block ?_ ?_) | (rw [World.cell?_drew]) | (rw [World.cell?_drewN]) | (dsimp only; omega))); done) | (first | (with_reducible assumption) | ((try simp (disch := first | omega | (simp only [szW] <;> omega) | fail) only [ceW]) <;> first | (with_reducible assumption) | rfl)))
  replace f_r4 : w2.frozen? ⟨w.heap.size + 1, 4, none⟩ = false := by rw [← hw2]; (first | (with_reducible assumption) | ((simp only [World.frozen?_setCell, World.frozen?_drew, World.frozen?_drewN]) <;> (with_reducible assumption)) | ((repeat (first | (with_reducible assumption) | (with_reducible refine World.cell?_setCell_same _ _ _ (by with_reducible assumption)) | (rw [World.cell?_setCell_other _ _ _ _ (by intro e; simp at e; done)]) | (with_reducible refine cell_setCell_block ?_ ?_) | (rw [World.cell?_drew]) | (rw [World.cell?_drewN]) | (dsimp only; omega))); done) | (first | (with_reducible assumption) | ((try simp (disch := first | omega | (simp only [szW] <;> omega) | fail) only [ceW]) <;> first | (with_reducible assumption) | rfl)))
  replace c_r5 : w2.cell? ⟨w.heap.size + 1, 5, none⟩ = some (.int .u64 0) := by rw [← hw2]; (first | (with_reducible assumption) | ((simp only [World.frozen?_setCell, World.frozen?_drew, World.frozen?_drewN]) <;> (with_reducible assumption)) | ((repeat (first | (with_reducible assumption) | (with_reducible refine World.cell?_setCell_same _ _ _ (by with_reducible assumption)) | (rw [World.cell?_setCell_other _ _ _ _ (by intro e; simp at e; done)]) | (with_reducible refine cell_setCell_block ?_ ?_) | (rw [World.cell?_drew]) | (rw [World.cell?_drewN]) | (dsimp only; omega))); done) | (first | (with_reducible assumption) | ((try simp (disch := first | omega | (simp only [szW] <;> omega) | fail) only [ceW]) <;> first | (with_reducible assumption) | rfl)))
  replace f_r5 : w2.frozen? ⟨w.heap.size + 1, 5, none⟩ = false := by rw [← hw2]; (first | (with_reducible assumption) | ((simp only [World.frozen?_setCell, World.frozen?_drew, World.frozen?_drewN]) <;> (with_reducible assumption)) | ((repeat (first | (with_reducible assumption) | (with_reducible refine World.cell?_setCell_same _ _ _ (by with_reducible assumption)) | (rw [World.cell?_setCell_other _ _ _ _ (by intro e; simp at e; done)]) | (with_reducible refine cell_setCell_block ?_ ?_) | (rw [World.cell?_drew]) | (rw [World.cell?_drewN]) | (dsimp only; omega))); done) | (first | (with_reducible assumption) | ((try simp (disch := first | omega | (simp only [szW] <;> omega) | fail) only [ceW]) <;> first | (with_reducible assumption) | rfl)))
  replace z_r : w.heap.size + 1 < w2.heap.size := by rw [← hw2]; (first | (with_reducible assumption) | omega | (simp only [szW] <;> omega) | (simp <;> omega))
  have c_o0 : w2.cell? ⟨w1.heap.size, 0, none⟩ = some (.int .i64 z.seg) := by rw [← hw2]; (first | (with_reducible assumption) | ((simp only [World.frozen?_setCell, World.frozen?_drew, World.frozen?_drewN]) <;> (with_reducible assumption)) | ((repeat (first | (with_reducible assumption) | (with_reducible refine World.cell?_setCell_same _ _ _ (by with_reducible assumption)) | (rw [World.cell?_setCell_other _ _ _ _ (by intro e; simp at e; done)]) | (with_reducible refine cell_setCell_block ?_ ?_) | (rw [World.cell?_drew]) | (rw [World.cell?_drewN]) | (dsimp only; omega))); done) | (first | (with_reducible assumption) | ((try simp (disch := first | omega | (simp only [szW] <;> omega) | fail) only [ceW]) <;> first | (with_reducible assumption) | rfl)))
  have c_o1 : w2.cell? ⟨w1.heap.size, 1, none⟩ = some (.slice a1 z.ws.length k1) := by rw [← hw2]; (first | (with_reducible assumption) | ((simp only [World.frozen?_setCell, World.frozen?_drew, World.frozen?_drewN]) <;> (with_reducible assumption)) | ((repeat (first | (with_reducible assumption) | (with_reducible refine World.cell?_setCell_same _ _ _ (by with_reducible assumption)) | (rw [World.cell?_setCell_other _ _ _ _ (by intro e; simp at e; done)]) | (with_reducible refine cell_setCell_block ?_ ?_) | (rw [World.cell?_drew]) | (rw [World.cell?_drewN]) | (dsimp only; omega))); done) | (first | (with_reducible assumption) | ((try simp (disch := first | omega | (simp only [szW] <;> omega) | fail) only [ceW]) <;> first | (with_reducible assumption) | rfl)))
  have c_o2 : w2.cell? ⟨w1.heap.size, 2, none⟩ = some (.slice a2 z.ks.length k2) := by rw [← hw2]; (first | (with_reducible assumption) | ((simp only [World.frozen?_setCell, World.frozen?_drew, World.frozen?_drewN]) <;> (with_reducible assumption)) | ((repeat (first | (with_reducible assumption) | (with_reducible refine World.cell?_setCell_same _ _ _ (by with_reducible assumption)) | (rw [World.cell?_setCell_other _ _ _ _ (by intro e; simp at e; done)]) | (with_reducible refine cell_setCell_block ?_ ?_) | (rw [World.cell?_drew]) | (rw [World.cell?_drewN]) | (dsimp only; omega))); done) | (first | (with_reducible assumption) | ((try simp (disch := first | omega | (simp only [szW] <;> omega) | fail) only [ceW]) <;> first | (with_reducible assumption) | rfl)))
  have c_o3 : w2.cell? ⟨w1.heap.size, 3, none⟩ = some (.slice a3 z.vs.length k3) := by rw [← hw2]; (first | (with_reducible assumption) | ((simp only [World.frozen?_setCell, World.frozen?_drew, World.frozen?_drewN]) <;> (with_reducible assumption)) | ((repeat (first | (with_reducible assumption) | (with_reducible refine World.cell?_setCell_same _ _ _ (by with_reducible assumption)) | (rw [World.cell?_setCell_other _ _ _ _ (by intro e; simp at e; done)]) | (with_reducible refine cell_setCell_block ?_ ?_) | (rw [World.cell?_drew]) | (rw [World.cell?_drewN]) | (dsimp only; omega))); done) | (first | (with_reducible assumption) | ((try simp (disch := first | omega | (simp only [szW] <;> omega) | fail) only [ceW]) <;> first | (with_reducible assumption) | rfl)))
  have c_o4 : w2.cell? ⟨w1.heap.size, 4, none⟩ = some (.slice a4 z.cs.length k4) := by rw [← hw2]; (first | (with_reducible assumption) | ((simp only [World.frozen?_setCell, World.frozen?_drew, World.frozen?_drewN]) <;> (with_reducible assumption)) | ((repeat (first | (with_reducible assumption) | (with_reducible refine World.cell?_setCell_same _ _ _ (by with_reducible assumption)) | (rw [World.cell?_setCell_other _ _ _ _ (by intro e; simp at e; done)]) | (with_reducible refine cell_setCell_block ?_ ?_) | (rw [World.cell?_drew]) | (rw [World.cell?_drewN]) | (dsimp only; omega))); done) | (first | (with_reducible assumption) | ((try simp (disch := first | omega | (simp only [szW] <;> omega) | fail) only [ceW]) <;> first | (with_reducible assumption) | rfl)))
  have c_o5 : w2.cell? ⟨w1.heap.size, 5, none⟩ = some (.int .u64 laid) := by rw [← hw2]; (first | (with_reducible assumption) | ((simp only [World.frozen?_setCell, World.frozen?_drew, World.frozen?_drewN]) <;> (with_reducible assumption)) | ((repeat (first | (with_reducible assumption) | (with_reducible refine World.cell?_setCell_same _ _ _ (by with_reducible assumption)) | (rw [World.cell?_setCell_other _ _ _ _ (by intro e; simp at e; done)]) | (with_reducible refine cell_setCell_block ?_ ?_) | (rw [World.cell?_drew]) | (rw [World.cell?_drewN]) | (dsimp only; omega))); done) | (first | (with_reducible assumption) | ((try simp (disch := first | omega | (simp only [szW] <;> omega) | fail) only [ceW]) <;> first | (with_reducible assumption) | rfl)))
  have z_o : w1.heap.size < w2.heap.size := by rw [← hw2]; (first | (with_reducible assumption) | omega | (simp only [szW] <;> omega) | (simp <;> omega))
  have hb2 : Below w1.heap.size w1 w2 := by rw [← hw2]; exact (Below.refl _ _).alloc (Nat.le_refl _) _
  have HB2 := Lib.hid (below_via hb2 HB1.out HB1.out.size)
  have HC := Lib.hid (OV.out w2 ⟨a1, a2, a3, a4, k1, k2, k3, k4⟩ HB2.out (HI.out.below hb2) (fun e => (HY.out.1 e).2) (fun e => (HY.out.2.1 e).2) (fun e => (HY.out.2.2.1 e).2) (fun e => (HY.out.2.2.2 e).2))
  have hz2 := HB2.out.size
  have hz22 := z_r
  clear hw2 hb2
  dsimp only [slV] at HC
  go_wp2_with fail
  refine HC.out.mono ?_
  rintro e w3 ⟨v1, v2, v3, v4, rfl, p1, p2, p3, p4, hb3⟩
  have hz_w3 := hb3.size
  try simp only [World.size_alloc, World.size_setCell] at hz_w3
  have all_c : w3.cell? ⟨w.heap.size, 0, none⟩ = some (.int .i64 seg) ∧ w3.cell? ⟨w.heap.size, 1, none⟩ = some (.slice wa lw wc) ∧ w3.cell? ⟨w.heap.size, 2, none⟩ = some (.slice ka n kc) ∧ w3.cell? ⟨w.heap.size, 3, none⟩ = some (.slice va lv vc) ∧ w3.cell? ⟨w.heap.size, 4, none⟩ = some (.slice ca lc cc) ∧ w3.cell? ⟨w.heap.size, 5, none⟩ = some (.int .u64 laid) ∧ w3.cell? ⟨w.heap.size + 1, 0, none⟩ = some (.int .i64 0) ∧ w3.cell? ⟨w.heap.size + 1, 1, none⟩ = some (.slice none 0 0) ∧ w3.cell? ⟨w.heap.size + 1, 2, none⟩ = some (.slice none 0 0) ∧ w3.cell? ⟨w.heap.size + 1, 3, none⟩ = some (.slice none 0 0) ∧ w3.cell? ⟨w.heap.size + 1, 4, none⟩ = some (.slice none 0 0) ∧ w3.cell? ⟨w.heap.size + 1, 5, none⟩ = some (.int .u64 0) ∧ w3.cell? ⟨w1.heap.size, 0, none⟩ = some (.int .i64 z.seg) ∧ w3.cell? ⟨w1.heap.size, 1, none⟩ = some (.slice a1 z.ws.length k1) ∧ w3.cell? ⟨w1.heap.size, 2, none⟩ = some (.slice a2 z.ks.length k2) ∧ w3.cell? ⟨w1.heap.size, 3, none⟩ = some (.slice a3 z.vs.length k3) ∧ w3.cell? ⟨w1.heap.size, 4, none⟩ = some (.slice a4 z.cs.length k4) ∧ w3.cell? ⟨w1.heap.size, 5, none⟩ = some (.int .u64 laid) := by refine ⟨?_, ?_, ?_, ?_, ?_, ?_, ?_, ?_, ?_, ?_, ?_, ?_, ?_, ?_, ?_, ?_, ?_, ?_⟩ <;> (refine (hb3.cell ?_).trans ?_ <;> first | (first | (with_reducible assumption) | omega | (simp only [szW] <;> omega) | (simp <;> omega)) | (first | (with_reducible assumption) | ((try simp (disch := first | omega | (simp only [szW] <;> omega) | fail) only [ceW]) <;> first | (with_reducible assumption) | rfl)))
  have all_f : w3.frozen? ⟨w.heap.size + 1, 0, none⟩ = false ∧ w3.frozen? ⟨w.heap.size + 1, 1, none⟩ = false ∧ w3.frozen? ⟨w.heap.size + 1, 2, none⟩ = false ∧ w3.frozen? ⟨w.heap.size + 1, 3, none⟩ = false ∧ w3.frozen? ⟨w.heap.size + 1, 4, none⟩ = false ∧ w3.frozen? ⟨w.heap.size + 1, 5, none⟩ = false := by refine ⟨?_, ?_, ?_, ?_, ?_, ?_⟩ <;> (refine (hb3.frozen ?_).trans ?_ <;> first | (first | (with_reducible assumption) | omega | (simp only [szW] <;> omega) | (simp <;> omega)) | (first | (with_reducible assumption) | ((try simp (disch := first | omega | (simp only [szW] <;> omega) | fail) only [ceW]) <;> first | (with_reducible assumption) | rfl)))
  have all_z : w.heap.size < w3.heap.size ∧ w.heap.size + 1 < w3.heap.size ∧ w1.heap.size < w3.heap.size := by refine ⟨?_, ?_, ?_⟩ <;> (omega)
  clear c_t0 c_t1 c_t2 c_t3 c_t4 c_t5 c_r0 c_r1 c_r2 c_r3 c_r4 c_r5 c_o0 c_o1 c_o2 c_o3 c_o4 c_o5 f_r0 f_r1 f_r2 f_r3 f_r4 f_r5 z_t z_r z_o
  obtain ⟨c_t0, c_t1, c_t2, c_t3, c_t4, c_t5, c_r0, c_r1, c_r2, c_r3, c_r4, c_r5, c_o0, c_o1, c_o2, c_o3, c_o4, c_o5⟩ := all_c
  try clear all_c
  obtain ⟨f_r0, f_r1, f_r2, f_r3, f_r4, f_r5⟩ := all_f
  try clear all_f
  obtain ⟨z_t, z_r, z_o⟩ := all_z
  try clear all_z
  have HB3 := Lib.hid (below_via hb3 HB2.out hz2)
  obtain ⟨x1, y1, rfl, -⟩ := owns_news p1
  obtain ⟨x2, y2, rfl, -⟩ := owns_news p2
  obtain ⟨x3, y3, rfl, -⟩ := owns_news p3
  obtain ⟨x4, y4, rfl, -⟩ := owns_news p4
  have HP1 := Lib.hid p1
  have HP2 := Lib.hid p2
  have HP3 := Lib.hid p3
  have HP4 := Lib.hid p4
  clear p1 p2 p3 p4
  clear hb3
  go_wp2
  have HQ : Hid (∀ q, q ≠ w.heap.size + 1 → ((((((w3.setCell ⟨w.heap.size + 1, 0, none⟩ (.int .i64 d.seg)).setCell ⟨w.heap.size + 1, 1, none⟩ (.slice x1 d.ws.length y1)).setCell ⟨w.heap.size + 1, 2, none⟩ (.slice x2 d.ks.length y2)).setCell ⟨w.heap.size + 1, 3, none⟩ (.slice x3 d.vs.length y3)).setCell ⟨w.heap.size + 1, 4, none⟩ (.slice x4 d.cs.length y4)).setCell ⟨w.heap.size + 1, 5, none⟩ (.int .u64 d.laid)).heap[q]? = w3.heap[q]?) := Lib.hid fun q hq => by
    rw [heap_setCell_ne _ _ _ hq, heap_setCell_ne _ _ _ hq, heap_setCell_ne _ _ _ hq, heap_setCell_ne _ _ _ hq, heap_setCell_ne _ _ _ hq, heap_setCell_ne _ _ _ hq]
  refine bodyPost_ret (results_ct rfl rfl (run_loadVar_many _ Try.underlying29 rfl (by kernel_rfl) (six_set c_r0 c_r1 c_r2 c_r3 c_r4 c_r5))) rfl ⟨_, _, _, _, rfl, ?_, ?_, ?_, ?_, ?_⟩
  · exact owns_base (owns_heap HP1.out fun j hj => HQ.out _ (by have := (HP1.out.lt j hj).1; omega)) (by omega)
  · exact owns_base (owns_heap HP2.out fun j hj => HQ.out _ (by have := (HP2.out.lt j hj).1; omega)) (by omega)
  · exact owns_base (owns_heap HP3.out fun j hj => HQ.out _ (by have := (HP3.out.lt j hj).1; omega)) (by omega)
  · exact owns_base (owns_heap HP4.out fun j hj => HQ.out _ (by have := (HP4.out.lt j hj).1; omega)) (by omega)
  · exact (((((HB3.out.setCell (by dsimp only; omega) _).setCell (by dsimp only; omega) _).setCell (by dsimp only; omega) _).setCell (by dsimp only; omega) _).setCell (by dsimp only; omega) _).setCell (by dsimp only; omega) _
end

section
open Go.RowKit

/-- where the rows of an array lie: none has room where there is none -/
def CapsZ (a : SlA) : Prop := (a.wa = none → a.wc = 0) ∧ (a.ka = none → a.kc = 0) ∧ (a.va = none → a.vc = 0) ∧ (a.ca = none → a.cc = 0)
theorem gd_may {c : SlC} {S lw n lc : Nat} (h : SlGd c S lw n lc) (hS : pwB (S : Int) = true) (hM : pwB (lc : Int) = true) (hlw : lw = (n + 63) / 64) : slMay c = true := by
  have hlc1 : 1 ≤ lc := by
    rcases Nat.eq_zero_or_pos lc with e | e
    · rw [e] at hM; cases hM
    · exact e
  have h4 := h.s4
  have hn : (n : Int) / (S : Int) = lc := by
    rw [h.cn, Int.natCast_mul, Int.mul_ediv_cancel_left _ (by omega)]
  have hn2 : (n : Int) % (S : Int) = 0 := by
    rw [h.cn, Int.natCast_mul, Int.mul_emod_right]
  have hle : S * 1 ≤ S * lc := Nat.mul_le_mul_left _ hlc1
  simp only [slMay, slHead, fitB, wMayB, clrB, cntB, Bool.and_eq_true, decide_eq_true_eq, List.all_eq_true]
  rw [h.elk, h.elv, h.elw, h.elc, h.seg, hn, hn2]
  refine ⟨⟨⟨⟨⟨⟨⟨⟨⟨⟨⟨by have := h.s4; omega, by have := h.s64; omega⟩, hS⟩, by have := h.cn; omega⟩, by have := h.nm; omega⟩, rfl⟩, hM⟩, rfl⟩, hlw, ?_⟩, rfl⟩, ?_⟩, ?_⟩
  · intro i hi
    have := (List.mem_range'_1.1 hi).1
    rw [h.hi i this]
    rfl
  · intro i hi
    cases hb : bitW c.ws i with
    | true => rfl
    | false =>
      have := h.clr i hb
      simp only [Bool.false_or, Bool.and_eq_true, beq_iff_eq]
      exact this
  · intro k hk
    have := h.cnt k (List.mem_range.1 hk)
    rw [Int.toNat_natCast, this, beq_self_eq_true]
theorem gd_fit {c : SlC} {S lw n lc : Nat} (h : SlGd c S lw n lc) (hm : slMay c = true) : fitB (S : Int) n = true := by
  simp only [slMay, slHead, Bool.and_eq_true] at hm
  have := hm.1.1.1.1.1
  rwa [h.elk, h.seg] at this
theorem spC_gd {c : SlC} {S lw n lc lo hi : Nat} (h : SlGd c S lw n lc) (hlo : lo ≤ hi) (hh : hi ≤ n) {L : List (Int × Int)} (hL : L.length ≤ hi - lo) : SlGd (spC c lo hi L) S lw n lc := h.sp hlo hh hL
/-- lay.over -/
theorem over_ok {c : SlC} {S lw n lc : Nat} (h : SlGd c S lw n lc) (hm : slMay c = true) (sa : SlA) (lo hi : Nat) (hlo : lo ≤ hi) (hhi : hi ≤ n) (L : List (Int × Int)) (hL : L.length ≤ hi - lo) (la : Option Addr) (pl : Nat) (w : World) (hin : SlIn w c sa) (hla : IsRow .i64 w la (prI L)) :
    Calls Try.prog 28 #[slV c sa, .int .i64 lo, .int .i64 hi, .slice la L.length pl] w (FreshSl2 w (spC c lo hi L) (.int .i64 0)) := by
  have n1 := h.n1
  have nm := h.nm
  have s4 := h.s4
  have wn := h.wn
  have hlc : 0 < lc := by
    rcases Nat.eq_zero_or_pos lc with e | e
    · have := h.cn; rw [e] at this; omega
    · exact e
  have hlc2 : lc ≤ 65536 := by
    have h9 : 1 * lc ≤ S * lc := Nat.mul_le_mul_right _ (by omega)
    have := h.cn
    omega
  have hlw2 : lw ≤ 65536 := by
    have := slHead_facts (slMay_head hm)
    obtain ⟨S', M, -, -, -, b3, -, -, -, b7, -, b9, -⟩ := this
    rw [h.elw] at b9
    omega
  refine over_core w c.seg sa.wa sa.ka sa.va sa.ca sa.wc sa.kc sa.vc sa.cc c.ws.length c.ks.length c.vs.length c.cs.length c.laid lo hi L.length (ints (plR L.length lo hi)) la pl (spC c lo hi L) (by rw [ints_length, plR_length]) (Lib.hid fun W hb => ?_) (Lib.hid fun W hb => Places_ok L.length lo hi hlo (by omega) hL W) (Lib.hid fun W pa pc hb hp => ?_)
  · have := slCheck_ok c sa (by rw [h.elw]; omega) (by rw [h.elk]; omega) W (hin.below hb)
    rwa [show slE c = 0 by simp [slE, hm]] at this
  · have hin2 := hin.below hb
    have e1 := h.elw
    have e2 := h.elk
    have e3 := h.elv
    have e4 := h.elc
    rw [e1, e2, e3, e4]
    refine slFill_core W c.seg sa.wa sa.ka sa.va sa.ca sa.wc sa.kc sa.vc sa.cc lw n lc c.laid c lo hi L.length S (plR L.length lo hi) L pa la pc pl rfl rfl e1 e2 e3 e4 (by omega) (by omega) hlc nm hlw2 hlc2 h.seg s4 hlo hhi wn h.cn (plR_length _ _ _) rfl (by omega) (fun k hk => plR_pv hk hL) (fun j hj => (h.tks j (by omega)).ok) (fun k hk => (SlGd.lys (h.tks (hi - lo) (by omega)) (fun k => plR_ltn hL hhi (by omega) k) L k).ok) (Lib.hid hp) (Lib.hid (hla.below hb)) (Lib.hid fun W' hb' => ?_) (Lib.hid fun W' hb' => ?_)
    · have := part_ok c sa (by rw [e1]; omega) (by rw [e2]; omega) lo hi W' (hin2.below hb')
      rw [show partE c lo hi = 0 by unfold partE; rw [if_pos hm, if_pos (by rw [e2]; omega)]] at this
      simpa only [slV, e1, e2, e3, e4] using this
    · have := slTwin_ok c sa W' (hin2.below hb') (by rw [e1]; omega) (by rw [e2]; omega) (by rw [e3]; omega) (by rw [e4]; omega)
      simpa only [slV, e1, e2, e3, e4] using this
/-- the reference's Spread -/
theorem Spread08_ok {c : SlC} {S lw n lc : Nat} (h : SlGd c S lw n lc) (hlw2 : lw ≤ 2000) (sa : SlA) (hz : CapsZ sa) (lo hi : Nat) (hlo : lo ≤ hi) (hhi : hi ≤ n) (L : List (Int × Int)) (hL : L.length ≤ hi - lo) (la : Option Addr) (pl : Nat) (w : World) (hin : SlIn w c sa) (hla : IsRow .i64 w la (prI L)) :
    Calls Try.prog 53 #[slV c sa, .int .i64 lo, .int .i64 hi, .slice la L.length pl] w (FreshSl w (spC c lo hi L)) := by
  have n1 := h.n1
  have nm := h.nm
  have s4 := h.s4
  have wn := h.wn
  have hlc : 0 < lc := by
    rcases Nat.eq_zero_or_pos lc with e | e
    · have := h.cn; rw [e] at this; omega
    · exact e
  have hlc2 : lc ≤ 65536 := by
    have h9 : 1 * lc ≤ S * lc := Nat.mul_le_mul_right _ (by omega)
    have := h.cn
    omega
  refine Spread08_core w c.seg sa.wa sa.ka sa.va sa.ca sa.wc sa.kc sa.vc sa.cc c.ws.length c.ks.length c.vs.length c.cs.length c.laid lo hi L.length (ints (plR L.length lo hi)) la pl (spC c lo hi L) (by rw [ints_length, plR_length]) (Lib.hid fun W hb => Of07_ok L.length lo hi hlo (by omega) hL W) (Lib.hid fun W pa pc hb hp => ?_)
  have hin2 := hin.below hb
  have e1 := h.elw
  have e2 := h.elk
  have e3 := h.elv
  have e4 := h.elc
  rw [e1, e2, e3, e4]
  refine Filled_core W c.seg sa.wa sa.ka sa.va sa.ca sa.wc sa.kc sa.vc sa.cc lw n lc c.laid c lo hi L.length S (plR L.length lo hi) L pa la pc pl h (by omega) hlc hlw2 hlo hhi (plR_length _ _ _) rfl (by omega) (fun k => plR_ltn hL hhi (by omega) k) (fun k hk => lys_free h hlo hhi hL hk) (Lib.hid hp) (Lib.hid (hla.below hb)) (Lib.hid fun W' hb' => ?_)
  have := Twin04N_ok c sa W' (hin2.below hb') (by rw [e1]; omega) (by rw [e2]; omega) (by rw [e3]; omega) (by rw [e4]; omega) hz.1 hz.2.1 hz.2.2.1 hz.2.2.2
  simpa only [slV, e1, e2, e3, e4] using this
/-- an empty array of so many slots, with a ledger -/
def emptyL (S M : Nat) (laid : Int) : SlC := ⟨S, List.replicate ((S * M + 63) / 64) 0, List.replicate (S * M) 0, List.replicate (S * M) 0, List.replicate M 0, laid⟩
theorem emptyL_gd {S M : Nat} (h4 : 4 ≤ S) (h6 : S ≤ 64) (hM : 1 ≤ M) (hm : S * M ≤ 65536) (laid : Int) : SlGd (emptyL S M laid) S ((S * M + 63) / 64) (S * M) M := by
  have z := zero_gd h4 h6 hM hm (lw := (S * M + 63) / 64) rfl
  exact ⟨z.seg, z.elw, z.elk, z.elv, z.elc, z.s4, z.s64, z.cn, z.wn, z.n1, z.nm, z.u, z.cnt, z.hi, z.clr⟩
/-- pairs spread over an array of another size -/
def wideC (S M : Nat) (laid : Int) (L : List (Int × Int)) : SlC := spC (emptyL S M laid) 0 (S * M) L
theorem new_nums {S M : Nat} (h4 : 4 ≤ S) (hm : S * M ≤ 65536) : (((S * M : Nat) : Int) + 63).tdiv 64 = ((S * M + 63) / 64 : Nat) ∧ ((S * M : Nat) : Int).tdiv S = M ∧ (S * M + 63) / 64 ≤ 2000 ∧ M ≤ 65536 := by
  have h9 : 1 * M ≤ S * M := Nat.mul_le_mul_right _ (by omega)
  refine ⟨?_, ?_, by omega, by omega⟩
  · rw [Int.tdiv_eq_ediv_of_nonneg (by omega)]; omega
  · rw [Int.tdiv_eq_ediv_of_nonneg (by omega), Int.natCast_mul, Int.mul_ediv_cancel_left _ (by omega)]
/-- lay.Into -/
theorem Into_ok {c : SlC} {S lw n lc : Nat} (h : SlGd c S lw n lc) (hm : slMay c = true) (sa : SlA) (M : Nat) (hM : 1 ≤ M) (hS : pwB (S : Int) = true) (hMp : pwB (M : Int) = true) (hsm : S * M ≤ 65536) (L : List (Int × Int)) (hL : L.length ≤ S * M) (la : Option Addr) (pl : Nat) (w : World) (hin : SlIn w c sa) (hla : IsRow .i64 w la (prI L)) :
    Calls Try.prog 13 #[slV c sa, .int .i64 ((S * M : Nat) : Int), .slice la L.length pl] w (FreshSl2 w (wideC S M c.laid L) (.int .i64 0)) := by
  obtain ⟨q1, q2, q3, q4⟩ := new_nums (M := M) h.s4 hsm
  have ge := emptyL_gd h.s4 h.s64 hM hsm c.laid
  have gm := gd_may ge hS hMp rfl
  refine Into_core w c.seg sa.wa sa.ka sa.va sa.ca sa.wc sa.kc sa.vc sa.cc c.ws.length c.ks.length c.vs.length c.cs.length c.laid (S * M) L.length la pl (zeroSl S (S * M) ((S * M + 63) / 64) M) (wideC S M c.laid L) ge.u (Lib.hid fun W hb => ?_) (Lib.hid fun W hb => ?_) (Lib.hid fun W sa' hb hi z1 z2 z3 z4 => ?_)
  · have := slCheck_ok c sa (by rw [h.elw]; have := slHead_facts (slMay_head hm); obtain ⟨S', M', -, -, -, b3, -, -, -, b7, -, b9, -⟩ := this; rw [h.elw] at b9; omega) (by rw [h.elk]; have := h.nm; omega) W (hin.below hb)
    rwa [show slE c = 0 by simp [slE, hm]] at this
  · rw [h.seg]
    refine slNew_core W S (S * M) ((S * M + 63) / 64) M h.s4 hsm h.s64 q1 q2 (by omega) q4 (Lib.hid fun W' => ?_)
    have := fits_ok (S : Int) ((S * M : Nat) : Int) W'
    rwa [gd_fit ge gm] at this
  · exact over_ok ge gm sa' 0 (S * M) (Nat.zero_le _) (Nat.le_refl _) L (by omega) la pl W hi (hla.below hb)
/-- the reference's Wide -/
theorem Wide08_ok {c : SlC} {S lw n lc : Nat} (h : SlGd c S lw n lc) (sa : SlA) (M : Nat) (hM : 1 ≤ M) (hsm : S * M ≤ 65536) (L : List (Int × Int)) (hL : L.length ≤ S * M) (la : Option Addr) (pl : Nat) (w : World) (hla : IsRow .i64 w la (prI L)) :
    Calls Try.prog 31 #[slV c sa, .int .i64 ((S * M : Nat) : Int), .slice la L.length pl] w (FreshSl w (wideC S M c.laid L)) := by
  obtain ⟨q1, q2, q3, q4⟩ := new_nums (M := M) h.s4 hsm
  have ge := emptyL_gd h.s4 h.s64 hM hsm c.laid
  refine Wide08_core w c.seg sa.wa sa.ka sa.va sa.ca sa.wc sa.kc sa.vc sa.cc c.ws.length c.ks.length c.vs.length c.cs.length c.laid (S * M) L.length la pl (zeroSl S (S * M) ((S * M + 63) / 64) M) (wideC S M c.laid L) h.seg.symm ge.u (Lib.hid fun W hb => ?_) (Lib.hid fun W sa' hb hi z1 z2 z3 z4 => ?_)
  · rw [h.seg]
    exact Empty04_core W S (S * M) ((S * M + 63) / 64) M h.s4 hsm h.s64 q1 q2 (by omega) q4
  · exact Spread08_ok ge q3 sa' ⟨z1, z2, z3, z4⟩ 0 (S * M) (Nat.zero_le _) (Nat.le_refl _) L (by omega) la pl W hi (hla.below hb)
end
end Go.Proofs.Ytookgoidlnlckaa
