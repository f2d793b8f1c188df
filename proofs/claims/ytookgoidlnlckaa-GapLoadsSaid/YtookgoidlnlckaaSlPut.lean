/- Merged: SlNew, InvRel, SlTwin, SlTake, SlTakeOk, SlLay, SlLayOk, SlFill, ChapL. -/
import Derived.Test.YtookgoidlnlckaaIdxFacts
import Derived.Test.YtookgoidlnlckaaInvL
import Derived.Test.YtookgoidlnlckaaSlTw
namespace Go.Proofs.Ytookgoidlnlckaa
set_option linter.unusedVariables false
set_option linter.unusedSimpArgs false
section
open Go.RowKit Go.Shelf
attribute [local go_sem] Oper.semAt_some

/-- a row of one's own, whole -/
def FactR.own (base : Nat) (e : TypeId) (n : Nat) (xs : List Value) : FactR RB :=
  ⟨fun v w => ∃ g, v = .slice (some ⟨g, 0, none⟩) n n ∧ w.ownsRow base e 1 (.slice (some ⟨g, 0, none⟩) n n) n xs, fun _ _ _ h ⟨g, e1, k⟩ => ⟨g, e1, owns_below k h⟩⟩
theorem made_zero (k : IntKind) (n : Nat) : (madeCells (Value.int k 0).cells (n * 1)).toList = (List.replicate n (0 : Int)).map (Value.int k) := by
  rw [Nat.mul_one, List.map_replicate]
  exact toList_madeCells_one _ _
/-- an empty gapped array -/
def zeroSl (seg many nw nc : Nat) : SlC := ⟨seg, List.replicate nw 0, List.replicate many 0, List.replicate many 0, List.replicate nc 0, 0⟩
/-- a gapped array of one's own, with an error beside it -/
def FreshSl2 (w : World) (c : SlC) (x : Value) (e : Ending) (w' : World) : Prop :=
  ∃ v1 v2 v3 v4, e = .returned (.tuple #[.agg #[.int .i64 c.seg, v1, v2, v3, v4, .int .u64 c.laid], x]) ∧ w'.ownsRow w.heap.size 27 1 v1 c.ws.length (c.ws.map (Value.int .u64)) ∧ w'.ownsRow w.heap.size 2 1 v2 c.ks.length (c.ks.map (Value.int .i64)) ∧ w'.ownsRow w.heap.size 2 1 v3 c.vs.length (c.vs.map (Value.int .i64)) ∧ w'.ownsRow w.heap.size 3 1 v4 c.cs.length (c.cs.map (Value.int .i64)) ∧ Below w.heap.size w w'

set_option maxRecDepth 100000 in
set_option maxHeartbeats 2000000 in
theorem slNew_core (w : World) (seg many nw nc : Nat) (hs : 4 ≤ seg) (hm : many ≤ 65536) (hs2 : seg ≤ 64) (hnw : ((many : Int) + 63).tdiv 64 = nw) (hnc : (many : Int).tdiv seg = nc) (hnw2 : nw ≤ 65536) (hnc2 : nc ≤ 65536)
    (FT : Hid (∀ W, Calls Try.prog 36 #[.int .i64 seg, .int .i64 many] W fun e w' => e = .returned (.bool true) ∧ W = w')) :
    Calls Try.prog 27 #[.int .i64 seg, .int .i64 many] w (FreshSl2 w (zeroSl seg many nw nc) (.int .i64 0)) := by
  have hs0 : ((seg : Int) == 0) = false := by simp; omega
  have hsn : ¬ (seg : Int) = 0 := by omega
  have hsn2 : ¬ seg = 0 := by omega
  have hw0 : IntKind.i64.wrap ((many : Int) + 63) = (many : Int) + 63 := IntWalk.i64_in _ (by omega)
  have hw1 : IntKind.i64.wrap (nw : Int) = (nw : Int) := IntWalk.i64_in _ (by omega)
  have hw2 : IntKind.i64.wrap (nc : Int) = (nc : Int) := IntWalk.i64_in _ (by omega)
  go_enter Try.func27, Try.ntmps27
  go_wp2_with fail
  refine (FT.out _).mono ?_
  rintro e w' ⟨rfl, rfl⟩
  go_wp2
  generalize hwz : w.alloc (.cells #[.int .i64 0, .slice none 0 0, .slice none 0 0, .slice none 0 0, .slice none 0 0, .int .u64 0] 29) = wz
  have c_r0 : wz.cell? ⟨w.heap.size, 0, none⟩ = some (.int .i64 0) := by rw [← hwz]; (first | (with_reducible assumption) | ((simp only [World.frozen?_setCell, World.frozen?_drew, World.frozen?_drewN]) <;> (with_reducible assumption)) | ((repeat (first | (with_reducible assumption) | (with_reducible refine World.cell?_setCell_same _ _ _ (by with_reducible assumption)) | (rw [World.cell?_setCell_other _ _ _ _ (by intro e; simp at e; done)]) | (with_reducible refine cell_setCell_block ?_ ?_) | (rw [World.cell?_drew]) | (rw [World.cell?_drewN]) | (dsimp only; omega))); done) | (first | (with_reducible assumption) | ((try simp (disch := first | omega | (simp only [szW] <;> omega) | fail) only [ceW]) <;> first | (with_reducible assumption) | rfl)))
  have f_r0 : wz.frozen? ⟨w.heap.size, 0, none⟩ = false := by rw [← hwz]; (first | (with_reducible assumption) | ((simp only [World.frozen?_setCell, World.frozen?_drew, World.frozen?_drewN]) <;> (with_reducible assumption)) | ((repeat (first | (with_reducible assumption) | (with_reducible refine World.cell?_setCell_same _ _ _ (by with_reducible assumption)) | (rw [World.cell?_setCell_other _ _ _ _ (by intro e; simp at e; done)]) | (with_reducible refine cell_setCell_block ?_ ?_) | (rw [World.cell?_drew]) | (rw [World.cell?_drewN]) | (dsimp only; omega))); done) | (first | (with_reducible assumption) | ((try simp (disch := first | omega | (simp only [szW] <;> omega) | fail) only [ceW]) <;> first | (with_reducible assumption) | rfl)))
  have c_r1 : wz.cell? ⟨w.heap.size, 1, none⟩ = some (.slice none 0 0) := by rw [← hwz]; (first | (with_reducible assumption) | ((simp only [World.frozen?_setCell, World.frozen?_drew, World.frozen?_drewN]) <;> (with_reducible assumption)) | ((repeat (first | (with_reducible assumption) | (with_reducible refine World.cell?_setCell_same _ _ _ (by with_reducible assumption)) | (rw [World.cell?_setCell_other _ _ _ _ (by intro e; simp at e; done)]) | (with_reducible refine cell_setCell_block ?_ ?_) | (rw [World.cell?_drew]) | (rw [World.cell?_drewN]) | (dsimp only; omega))); done) | (first | (with_reducible assumption) | ((try simp (disch := first | omega | (simp only [szW] <;> omega) | fail) only [ceW]) <;> first | (with_reducible assumption) | rfl)))
  have f_r1 : wz.frozen? ⟨w.heap.size, 1, none⟩ = false := by rw [← hwz]; (first | (with_reducible assumption) | ((simp only [World.frozen?_setCell, World.frozen?_drew, World.frozen?_drewN]) <;> (with_reducible assumption)) | ((repeat (first | (with_reducible assumption) | (with_reducible refine World.cell?_setCell_same _ _ _ (by with_reducible assumption)) | (rw [World.cell?_setCell_other _ _ _ _ (by intro e; simp at e; done)]) | (with_reducible refine cell_setCell_block ?_ ?_) | (rw [World.cell?_drew]) | (rw [World.cell?_drewN]) | (dsimp only; omega))); done) | (first | (with_reducible assumption) | ((try simp (disch := first | omega | (simp only [szW] <;> omega) | fail) only [ceW]) <;> first | (with_reducible assumption) | rfl)))
  have c_r2 : wz.cell? ⟨w.heap.size, 2, none⟩ = some (.slice none 0 0) := by rw [← hwz]; (first | (with_reducible assumption) | ((simp only [World.frozen?_setCell, World.frozen?_drew, World.frozen?_drewN]) <;> (with_reducible assumption)) | ((repeat (first | (with_reducible assumption) | (with_reducible refine World.cell?_setCell_same _ _ _ (by with_reducible assumption)) | (rw [World.cell?_setCell_other _ _ _ _ (by intro e; simp at e; done)]) | (with_reducible refine cell_setCell_block ?_ ?_) | (rw [World.cell?_drew]) | (rw [World.cell?_drewN]) | (dsimp only; omega))); done) | (first | (with_reducible assumption) | ((try simp (disch := first | omega | (simp only [szW] <;> omega) | fail) only [ceW]) <;> first | (with_reducible assumption) | rfl)))
  have f_r2 : wz.frozen? ⟨w.heap.size, 2, none⟩ = false := by rw [← hwz]; (first | (with_reducible assumption) | ((simp only [World.frozen?_setCell, World.frozen?_drew, World.frozen?_drewN]) <;> (with_reducible assumption)) | ((repeat (first | (with_reducible assumption) | (with_reducible refine World.cell?_setCell_same _ _ _ (by with_reducible assumption)) | (rw [World.cell?_setCell_other _ _ _ _ (by intro e; simp at e; done)]) | (with_reducible refine cell_setCell_block ?_ ?_) | (rw [World.cell?_drew]) | (rw [World.cell?_drewN]) | (dsimp only; omega))); done) | (first | (with_reducible assumption) | ((try simp (disch := first | omega | (simp only [szW] <;> omega) | fail) only [ceW]) <;> first | (with_reducible assumption) | rfl)))
  have c_r3 : wz.cell? ⟨w.heap.size, 3, none⟩ = some (.slice none 0 0) := by rw [← hwz]; (first | (with_reducible assumption) | ((simp only [World.frozen?_setCell, World.frozen?_drew, World.frozen?_drewN]) <;> (with_reducible assumption)) | ((repeat (first | (with_reducible assumption) | (with_reducible refine World.cell?_setCell_same _ _ _ (by with_reducible assumption)) | (rw [World.cell?_setCell_other _ _ _ _ (by intro e; simp at e; done)]) | (with_reducible refine cell_setCell_block ?_ ?_) | (rw [World.cell?_drew]) | (rw [World.cell?_drewN]) | (dsimp only; omega))); done) | (first | (with_reducible assumption) | ((try simp (disch := first | omega | (simp only [szW] <;> omega) | fail) only [ceW]) <;> first | (with_reducible assumption) | rfl)))
  have f_r3 : wz.frozen? ⟨w.heap.size, 3, none⟩ = false := by rw [← hwz]; (first | (with_reducible assumption) | ((simp only [World.frozen?_setCell, World.frozen?_drew, World.frozen?_drewN]) <;> (with_reducible assumption)) | ((repeat (first | (with_reducible assumption) | (with_reducible refine World.cell?_setCell_same _ _ _ (by with_reducible assumption)) | (rw [World.cell?_setCell_other _ _ _ _ (by intro e; simp at e; done)]) | (with_reducible refine cell_setCell_block ?_ ?_) | (rw [World.cell?_drew]) | (rw [World.cell?_drewN]) | (dsimp only; omega))); done) | (first | (with_reducible assumption) | ((try simp (disch := first | omega | (simp only [szW] <;> omega) | fail) only [ceW]) <;> first | (with_reducible assumption) | rfl)))
  have c_r4 : wz.cell? ⟨w.heap.size, 4, none⟩ = some (.slice none 0 0) := by rw [← hwz]; (first | (with_reducible assumption) | ((simp only [World.frozen?_setCell, World.frozen?_drew, World.frozen?_drewN]) <;> (with_reducible assumption)) | ((repeat (first | (with_reducible assumption) | (with_reducible refine World.cell?_setCell_same _ _ _ (by with_reducible assumption)) | (rw [World.cell?_setCell_other _ _ _ _ (by intro e; simp at e; done)]) | (with_reducible refine cell_setCell_block ?_ ?_) | (rw [World.cell?_drew]) | (rw [World.cell?_drewN]) | (dsimp only; omega))); done) | (first | (with_reducible assumption) | ((try simp (disch := first | omega | (simp only [szW] <;> omega) | fail) only [ceW]) <;> first | (with_reducible assumption) | rfl)))
  have f_r4 : wz.frozen? ⟨w.heap.size, 4, none⟩ = false := by rw [← hwz]; (first | (with_reducible assumption) | ((simp only [World.frozen?_setCell, World.frozen?_drew, World.frozen?_drewN]) <;> (with_reducible assumption)) | ((repeat (first | (with_reducible assumption) | (with_reducible refine World.cell?_setCell_same _ _ _ (by with_reducible assumption)) | (rw [World.cell?_setCell_other _ _ _ _ (by intro e; simp at e; done)]) | (with_reducible refine cell_setCell_block ?_ ?_) | (rw [World.cell?_drew]) | (rw [World.cell?_drewN]) | (dsimp only; omega))); done) | (first | (with_reducible assumption) | ((try simp (disch := first | omega | (simp only [szW] <;> omega) | fail) only [ceW]) <;> first | (with_reducible assumption) | rfl)))
  have c_r5 : wz.cell? ⟨w.heap.size, 5, none⟩ = some (.int .u64 0) := by rw [← hwz]; (first | (with_reducible assumption) | ((simp only [World.frozen?_setCell, World.frozen?_drew, World.frozen?_drewN]) <;> (with_reducible assumption)) | ((repeat (first | (with_reducible assumption) | (with_reducible refine World.cell?_setCell_same _ _ _ (by with_reducible assumption)) | (rw [World.cell?_setCell_other _ _ _ _ (by intro e; simp at e; done)]) | (with_reducible refine cell_setCell_block ?_ ?_) | (rw [World.cell?_drew]) | (rw [World.cell?_drewN]) | (dsimp only; omega))); done) | (first | (with_reducible assumption) | ((try simp (disch := first | omega | (simp only [szW] <;> omega) | fail) only [ceW]) <;> first | (with_reducible assumption) | rfl)))
  have f_r5 : wz.frozen? ⟨w.heap.size, 5, none⟩ = false := by rw [← hwz]; (first | (with_reducible assumption) | ((simp only [World.frozen?_setCell, World.frozen?_drew, World.frozen?_drewN]) <;> (with_reducible assumption)) | ((repeat (first | (with_reducible assumption) | (with_reducible refine World.cell?_setCell_same _ _ _ (by with_reducible assumption)) | (rw [World.cell?_setCell_other _ _ _ _ (by intro e; simp at e; done)]) | (with_reducible refine cell_setCell_block ?_ ?_) | (rw [World.cell?_drew]) | (rw [World.cell?_drewN]) | (dsimp only; omega))); done) | (first | (with_reducible assumption) | ((try simp (disch := first | omega | (simp only [szW] <;> omega) | fail) only [ceW]) <;> first | (with_reducible assumption) | rfl)))
  have z_r : w.heap.size < wz.heap.size := by rw [← hwz]; (first | (with_reducible assumption) | omega | (simp only [szW] <;> omega) | (simp <;> omega))
  have HS : Hid (Below w.heap.size w wz) := by rw [← hwz]; exact Lib.hid ((Below.refl _ _).alloc (Nat.le_refl _) _)
  have hz : w.heap.size + 1 = wz.heap.size := by rw [← hwz]; simp
  clear hwz
  refine wp_region_late 14 (by kernel_rfl) (N := 25) rfl (by kernel_rfl) (by kernel_rfl) (by decide) (fun w' => Below wz.heap.size wz w') RB (factRAt [.is (.int .i64 seg), .is (.int .i64 many), .is (.int .i64 ((many : Int) + 63)), .is (.int .i64 nw), .own wz.heap.size 27 nw ((List.replicate nw (0 : Int)).map (Value.int .u64)), .is (.int .i64 many), .own wz.heap.size 2 many ((List.replicate many (0 : Int)).map (Value.int .i64)), .is (.int .i64 many), .own wz.heap.size 2 many ((List.replicate many (0 : Int)).map (Value.int .i64)), .is (.int .i64 many), .is (.int .i64 seg), .is (.int .i64 nc), .own wz.heap.size 3 nc ((List.replicate nc (0 : Int)).map (Value.int .i64)), .sl wz.heap.size (zeroSl seg many nw nc)]) (factRAt_stays _) (Below.refl _ _).drew ?steps ?fin
  case steps =>
    refine ⟨?o0, ?o1, ?o2, ?o3, ?o4, ?o5, ?o6, ?o7, ?o8, ?o9, ?o10, ?o11, ?o12, ?o13, trivial⟩
    case o0 =>
      intro u a w' ev hJ hd K hK
      have e0 : a.tmps.getD 0 undef = .int .i64 seg := ev 0 (by decide)
      have HK := Lib.hid hK
      clear hK ev hd
      go_simp
      exact HK.out _ _ (fun h => by cases h) hJ rfl (Below.refl _ _)
    case o1 =>
      intro u a w' ev hJ hd K hK
      have e1 : a.tmps.getD 1 undef = .int .i64 many := ev 1 (by decide)
      have HK := Lib.hid hK
      clear hK ev hd
      go_simp
      exact HK.out _ _ (fun h => by cases h) hJ rfl (Below.refl _ _)
    case o2 =>
      intro u a w' ev hJ hd K hK
      have e12 : a.tmps.getD 12 undef = .int .i64 many := (ev 12 (by decide)).trans (hd 1 _ (by kernel_rfl) rfl)
      have HK := Lib.hid hK
      clear hK ev hd
      go_simp
      exact HK.out _ _ (fun h => by cases h) hJ rfl (Below.refl _ _)
    case o3 =>
      intro u a w' ev hJ hd K hK
      have e13 : a.tmps.getD 13 undef = .int .i64 ((many : Int) + 63) := (ev 13 (by decide)).trans (hd 2 _ (by kernel_rfl) rfl)
      have HK := Lib.hid hK
      clear hK ev hd
      go_simp
      exact HK.out _ _ (fun h => by cases h) hJ rfl (Below.refl _ _)
    case o4 =>
      intro u a w' ev hJ hd K hK
      have e14 : a.tmps.getD 14 undef = .int .i64 nw := (ev 14 (by decide)).trans (hd 3 _ (by kernel_rfl) rfl)
      exact wp_make (.tmp 14) (.tmp 14) 24 27 _ 1 8 Try.underlying24 info4_uint64 (by decide) wz.heap.size nw _ rfl (by omega) hJ.size rfl e14 e14 (fun g w'' k1 k2 k3 => hK _ _ (fun h => by cases h) (hJ.trans (k3.mono hJ.size)) ⟨g, rfl, by rw [made_zero] at k2; exact k2⟩ k3)
    case o5 =>
      intro u a w' ev hJ hd K hK
      have e1 : a.tmps.getD 1 undef = .int .i64 many := ev 1 (by decide)
      have HK := Lib.hid hK
      clear hK ev hd
      go_simp
      exact HK.out _ _ (fun h => by cases h) hJ rfl (Below.refl _ _)
    case o6 =>
      intro u a w' ev hJ hd K hK
      have e16 : a.tmps.getD 16 undef = .int .i64 many := (ev 16 (by decide)).trans (hd 5 _ (by kernel_rfl) rfl)
      exact wp_make (.tmp 16) (.tmp 16) 25 2 _ 1 8 Try.underlying25 info4_int64 (by decide) wz.heap.size many _ rfl (by omega) hJ.size rfl e16 e16 (fun g w'' k1 k2 k3 => hK _ _ (fun h => by cases h) (hJ.trans (k3.mono hJ.size)) ⟨g, rfl, by rw [made_zero] at k2; exact k2⟩ k3)
    case o7 =>
      intro u a w' ev hJ hd K hK
      have e1 : a.tmps.getD 1 undef = .int .i64 many := ev 1 (by decide)
      have HK := Lib.hid hK
      clear hK ev hd
      go_simp
      exact HK.out _ _ (fun h => by cases h) hJ rfl (Below.refl _ _)
    case o8 =>
      intro u a w' ev hJ hd K hK
      have e18 : a.tmps.getD 18 undef = .int .i64 many := (ev 18 (by decide)).trans (hd 7 _ (by kernel_rfl) rfl)
      exact wp_make (.tmp 18) (.tmp 18) 25 2 _ 1 8 Try.underlying25 info4_int64 (by decide) wz.heap.size many _ rfl (by omega) hJ.size rfl e18 e18 (fun g w'' k1 k2 k3 => hK _ _ (fun h => by cases h) (hJ.trans (k3.mono hJ.size)) ⟨g, rfl, by rw [made_zero] at k2; exact k2⟩ k3)
    case o9 =>
      intro u a w' ev hJ hd K hK
      have e1 : a.tmps.getD 1 undef = .int .i64 many := ev 1 (by decide)
      have HK := Lib.hid hK
      clear hK ev hd
      go_simp
      exact HK.out _ _ (fun h => by cases h) hJ rfl (Below.refl _ _)
    case o10 =>
      intro u a w' ev hJ hd K hK
      have e0 : a.tmps.getD 0 undef = .int .i64 seg := ev 0 (by decide)
      have HK := Lib.hid hK
      clear hK ev hd
      go_simp
      exact HK.out _ _ (fun h => by cases h) hJ rfl (Below.refl _ _)
    case o11 =>
      intro u a w' ev hJ hd K hK
      have e20 : a.tmps.getD 20 undef = .int .i64 many := (ev 20 (by decide)).trans (hd 9 _ (by kernel_rfl) rfl)
      have e21 : a.tmps.getD 21 undef = .int .i64 seg := (ev 21 (by decide)).trans (hd 10 _ (by kernel_rfl) rfl)
      have HK := Lib.hid hK
      clear hK ev hd
      go_simp
      exact HK.out _ _ (fun h => by cases h) hJ rfl (Below.refl _ _)
    case o12 =>
      intro u a w' ev hJ hd K hK
      have e22 : a.tmps.getD 22 undef = .int .i64 nc := (ev 22 (by decide)).trans (hd 11 _ (by kernel_rfl) rfl)
      exact wp_make (.tmp 22) (.tmp 22) 26 3 _ 1 8 Try.underlying26 info4_int (by decide) wz.heap.size nc _ rfl (by omega) hJ.size rfl e22 e22 (fun g w'' k1 k2 k3 => hK _ _ (fun h => by cases h) (hJ.trans (k3.mono hJ.size)) ⟨g, rfl, by rw [made_zero] at k2; exact k2⟩ k3)
    case o13 =>
      intro u a w' ev hJ hd K hK
      have h11 : u 11 = .int .i64 seg := hd 0 _ (by kernel_rfl) rfl
      obtain ⟨g15, h15, o15⟩ : (FactR.own wz.heap.size 27 nw ((List.replicate nw (0 : Int)).map (Value.int .u64))).holds (u 15) w' := hd 4 _ (by kernel_rfl) rfl
      obtain ⟨g17, h17, o17⟩ : (FactR.own wz.heap.size 2 many ((List.replicate many (0 : Int)).map (Value.int .i64))).holds (u 17) w' := hd 6 _ (by kernel_rfl) rfl
      obtain ⟨g19, h19, o19⟩ : (FactR.own wz.heap.size 2 many ((List.replicate many (0 : Int)).map (Value.int .i64))).holds (u 19) w' := hd 8 _ (by kernel_rfl) rfl
      obtain ⟨g23, h23, o23⟩ : (FactR.own wz.heap.size 3 nc ((List.replicate nc (0 : Int)).map (Value.int .i64))).holds (u 23) w' := hd 12 _ (by kernel_rfl) rfl
      have f11 : a.tmps[11]?.getD undef = .int .i64 seg := by rw [← Array.getD_eq_getD_getElem?]; exact (ev 11 (by decide)).trans h11
      have f15 : a.tmps[15]?.getD undef = .slice (some ⟨g15, 0, none⟩) nw nw := by rw [← Array.getD_eq_getD_getElem?]; exact (ev 15 (by decide)).trans h15
      have f17 : a.tmps[17]?.getD undef = .slice (some ⟨g17, 0, none⟩) many many := by rw [← Array.getD_eq_getD_getElem?]; exact (ev 17 (by decide)).trans h17
      have f19 : a.tmps[19]?.getD undef = .slice (some ⟨g19, 0, none⟩) many many := by rw [← Array.getD_eq_getD_getElem?]; exact (ev 19 (by decide)).trans h19
      have f23 : a.tmps[23]?.getD undef = .slice (some ⟨g23, 0, none⟩) nc nc := by rw [← Array.getD_eq_getD_getElem?]; exact (ev 23 (by decide)).trans h23
      have HK := Lib.hid hK
      have O15 := Lib.hid o15
      have O17 := Lib.hid o17
      have O19 := Lib.hid o19
      have O23 := Lib.hid o23
      clear hK ev hd h11 h15 h17 h19 h23 o15 o17 o19 o23
      go_simp
      exact HK.out _ _ (fun h => by cases h) hJ ⟨_, _, _, _, rfl, by simpa [zeroSl] using O15.out, by simpa [zeroSl] using O17.out, by simpa [zeroSl] using O19.out, by simpa [zeroSl] using O23.out⟩ (Below.refl _ _)
  case fin =>
    intro u w2 hJ hG
    obtain ⟨v1, v2, v3, v4, h24, p1, p2, p3, p4⟩ : (FactR.sl wz.heap.size (zeroSl seg many nw nc)).holds (u 24) w2 := hG 13 _ rfl
    obtain ⟨a1, c1, rfl, -⟩ := owns_news p1
    obtain ⟨a2, c2, rfl, -⟩ := owns_news p2
    obtain ⟨a3, c3, rfl, -⟩ := owns_news p3
    obtain ⟨a4, c4, rfl, -⟩ := owns_news p4
    have HP1 := Lib.hid p1
    have HP2 := Lib.hid p2
    have HP3 := Lib.hid p3
    have HP4 := Lib.hid p4
    have hz_w2 := hJ.size
    try simp only [World.size_alloc, World.size_setCell] at hz_w2
    replace c_r0 : w2.cell? ⟨w.heap.size, 0, none⟩ = some (.int .i64 0) := (hJ.cell (p := ⟨w.heap.size, 0, none⟩) (by (first | (with_reducible assumption) | omega | (simp only [szW] <;> omega) | (simp <;> omega)))).trans (by (first | (with_reducible assumption) | ((try simp (disch := first | omega | (simp only [szW] <;> omega) | fail) only [ceW]) <;> first | (with_reducible assumption) | rfl)))
    replace f_r0 : w2.frozen? ⟨w.heap.size, 0, none⟩ = false := (hJ.frozen (p := ⟨w.heap.size, 0, none⟩) (by (first | (with_reducible assumption) | omega | (simp only [szW] <;> omega) | (simp <;> omega)))).trans (by (first | (with_reducible assumption) | ((try simp (disch := first | omega | (simp only [szW] <;> omega) | fail) only [ceW]) <;> first | (with_reducible assumption) | rfl)))
    replace c_r1 : w2.cell? ⟨w.heap.size, 1, none⟩ = some (.slice none 0 0) := (hJ.cell (p := ⟨w.heap.size, 1, none⟩) (by (first | (with_reducible assumption) | omega | (simp only [szW] <;> omega) | (simp <;> omega)))).trans (by (first | (with_reducible assumption) | ((try simp (disch := first | omega | (simp only [szW] <;> omega) | fail) only [ceW]) <;> first | (with_reducible assumption) | rfl)))
    replace f_r1 : w2.frozen? ⟨w.heap.size, 1, none⟩ = false := (hJ.frozen (p := ⟨w.heap.size, 1, none⟩) (by (first | (with_reducible assumption) | omega | (simp only [szW] <;> omega) | (simp <;> omega)))).trans (by (first | (with_reducible assumption) | ((try simp (disch := first | omega | (simp only [szW] <;> omega) | fail) only [ceW]) <;> first | (with_reducible assumption) | rfl)))
    replace c_r2 : w2.cell? ⟨w.heap.size, 2, none⟩ = some (.slice none 0 0) := (hJ.cell (p := ⟨w.heap.size, 2, none⟩) (by (first | (with_reducible assumption) | omega | (simp only [szW] <;> omega) | (simp <;> omega)))).trans (by (first | (with_reducible assumption) | ((try simp (disch := first | omega | (simp only [szW] <;> omega) | fail) only [ceW]) <;> first | (with_reducible assumption) | rfl)))
    replace f_r2 : w2.frozen? ⟨w.heap.size, 2, none⟩ = false := (hJ.frozen (p := ⟨w.heap.size, 2, none⟩) (by (first | (with_reducible assumption) | omega | (simp only [szW] <;> omega) | (simp <;> omega)))).trans (by (first | (with_reducible assumption) | ((try simp (disch := first | omega | (simp only [szW] <;> omega) | fail) only [ceW]) <;> first | (with_reducible assumption) | rfl)))
    replace c_r3 : w2.cell? ⟨w.heap.size, 3, none⟩ = some (.slice none 0 0) := (hJ.cell (p := ⟨w.heap.size, 3, none⟩) (by (first | (with_reducible assumption) | omega | (simp only [szW] <;> omega) | (simp <;> omega)))).trans (by (first | (with_reducible assumption) | ((try simp (disch := first | omega | (simp only [szW] <;> omega) | fail) only [ceW]) <;> first | (with_reducible assumption) | rfl)))
    replace f_r3 : w2.frozen? ⟨w.heap.size, 3, none⟩ = false := (hJ.frozen (p := ⟨w.heap.size, 3, none⟩) (by (first | (with_reducible assumption) | omega | (simp only [szW] <;> omega) | (simp <;> omega)))).trans (by (first | (with_reducible assumption) | ((try simp (disch := first | omega | (simp only [szW] <;> omega) | fail) only [ceW]) <;> first | (with_reducible assumption) | rfl)))
    replace c_r4 : w2.cell? ⟨w.heap.size, 4, none⟩ = some (.slice none 0 0) := (hJ.cell (p := ⟨w.heap.size, 4, none⟩) (by (first | (with_reducible assumption) | omega | (simp only [szW] <;> omega) | (simp <;> omega)))).trans (by (first | (with_reducible assumption) | ((try simp (disch := first | omega | (simp only [szW] <;> omega) | fail) only [ceW]) <;> first | (with_reducible assumption) | rfl)))
    replace f_r4 : w2.frozen? ⟨w.heap.size, 4, none⟩ = false := (hJ.frozen (p := ⟨w.heap.size, 4, none⟩) (by (first | (with_reducible assumption) | omega | (simp only [szW] <;> omega) | (simp <;> omega)))).trans (by (first | (with_reducible assumption) | ((try simp (disch := first | omega | (simp only [szW] <;> omega) | fail) only [ceW]) <;> first | (with_reducible assumption) | rfl)))
    replace c_r5 : w2.cell? ⟨w.heap.size, 5, none⟩ = some (.int .u64 0) := (hJ.cell (p := ⟨w.heap.size, 5, none⟩) (by (first | (with_reducible assumption) | omega | (simp only [szW] <;> omega) | (simp <;> omega)))).trans (by (first | (with_reducible assumption) | ((try simp (disch := first | omega | (simp only [szW] <;> omega) | fail) only [ceW]) <;> first | (with_reducible assumption) | rfl)))
    replace f_r5 : w2.frozen? ⟨w.heap.size, 5, none⟩ = false := (hJ.frozen (p := ⟨w.heap.size, 5, none⟩) (by (first | (with_reducible assumption) | omega | (simp only [szW] <;> omega) | (simp <;> omega)))).trans (by (first | (with_reducible assumption) | ((try simp (disch := first | omega | (simp only [szW] <;> omega) | fail) only [ceW]) <;> first | (with_reducible assumption) | rfl)))
    replace z_r : w.heap.size < w2.heap.size := by omega
    have hB2 : Below w.heap.size w w2 := below_via hJ HS.out (by omega)
    clear hG p1 p2 p3 p4 hJ
    simp only [mixFrame, mixL, dstsOf, List.take_succ_cons, List.take_zero, List.filterMap_cons, List.filterMap_nil, List.contains_cons, List.contains_nil, Nat.reduceBEq, Bool.or_false, Bool.false_or, Bool.or_true, Bool.true_or, if_true, if_false, Bool.false_eq_true, Nat.reduceAdd, Nat.zero_add, List.drop_succ_cons, List.drop_zero, h24]
    go_wp2
    have HQ : Hid (∀ q, w.heap.size + 1 ≤ q → ((((((w2.setCell ⟨w.heap.size, 0, none⟩ (.int .i64 (zeroSl seg many nw nc).seg)).setCell ⟨w.heap.size, 1, none⟩ (.slice a1 (zeroSl seg many nw nc).ws.length c1)).setCell ⟨w.heap.size, 2, none⟩ (.slice a2 (zeroSl seg many nw nc).ks.length c2)).setCell ⟨w.heap.size, 3, none⟩ (.slice a3 (zeroSl seg many nw nc).vs.length c3)).setCell ⟨w.heap.size, 4, none⟩ (.slice a4 (zeroSl seg many nw nc).cs.length c4)).setCell ⟨w.heap.size, 5, none⟩ (.int .u64 (zeroSl seg many nw nc).laid)).heap[q]? = w2.heap[q]?) := Lib.hid fun q hq => by
      rw [heap_setCell_ne _ _ _ (by dsimp only; omega), heap_setCell_ne _ _ _ (by dsimp only; omega), heap_setCell_ne _ _ _ (by dsimp only; omega), heap_setCell_ne _ _ _ (by dsimp only; omega), heap_setCell_ne _ _ _ (by dsimp only; omega), heap_setCell_ne _ _ _ (by dsimp only; omega)]
    refine bodyPost_ret (results_ct rfl rfl (run_loadVar_many _ Try.underlying29 rfl (by kernel_rfl) (six_set c_r0 c_r1 c_r2 c_r3 c_r4 c_r5))) rfl ⟨_, _, _, _, rfl, ?_, ?_, ?_, ?_, ?_⟩
    · exact owns_base (owns_heap HP1.out fun j hj => HQ.out j (by have := (HP1.out.lt j hj).1; omega)) (by omega)
    · exact owns_base (owns_heap HP2.out fun j hj => HQ.out j (by have := (HP2.out.lt j hj).1; omega)) (by omega)
    · exact owns_base (owns_heap HP3.out fun j hj => HQ.out j (by have := (HP3.out.lt j hj).1; omega)) (by omega)
    · exact owns_base (owns_heap HP4.out fun j hj => HQ.out j (by have := (HP4.out.lt j hj).1; omega)) (by omega)
    · exact (((((hB2.setCell (by dsimp only; omega) _).setCell (by dsimp only; omega) _).setCell (by dsimp only; omega) _).setCell (by dsimp only; omega) _).setCell (by dsimp only; omega) _).setCell (by dsimp only; omega) _
end

section
open Go.RowKit
section
variable {P : Program} {ops : Array Oper} {Q : Exit → Act → World → Prop}

def updR (u : Nat → Value) (o : Oper) (v : Value) : Nat → Value := match o.dst with | some d => fun t => if t = d then v else u t | none => u
/-- what is owed of one operation -/
def OpOkR (P : Program) (ops : Array Oper) (Q : Exit → Act → World → Prop) (D : List Nat) (t0 : Array Value) (n : Nat) (ds : List Deferred) (J : World → Prop) (Ext : World → World → Prop) (G : Nat → (Nat → Value) → World → Prop) (k : Nat) (o : Oper) : Prop :=
  ∀ (u : Nat → Value) (a : Act) (w : World), (∀ t, t < n → a.tmps.getD t undef = mixAt D u t0 t) → J w →
    (∀ (j : Nat) (p : Oper), (o.after.any fun e => Region.binds .any e && e.on == j) = true → ops[j]? = some p → G j u w) →
    ∀ K : Act → World → Prop, (∀ v w', (o.dst = none → v = undef) → J w' → G k (updR u o v) w' → Ext w w' → K (a.put o.dst v) w') → Oper.wp P o a w K Q
def OpsOkR (P : Program) (ops : Array Oper) (Q : Exit → Act → World → Prop) (D : List Nat) (t0 : Array Value) (n : Nat) (ds : List Deferred) (J : World → Prop) (Ext : World → World → Prop) (G : Nat → (Nat → Value) → World → Prop) : Nat → List Oper → Prop
  | _, [] => True
  | k, o :: rest => OpOkR P ops Q D t0 n ds J Ext G k o ∧ OpsOkR P ops Q D t0 n ds J Ext G (k + 1) rest
theorem OpsOkR.at {D : List Nat} {t0 : Array Value} {n : Nat} {ds : List Deferred} {J : World → Prop} {Ext : World → World → Prop} {G : Nat → (Nat → Value) → World → Prop} : ∀ {l : List Oper} {k : Nat}, OpsOkR P ops Q D t0 n ds J Ext G k l → ∀ {i : Nat} {o : Oper}, l[i]? = some o → OpOkR P ops Q D t0 n ds J Ext G (k + i) o
  | [], _, _, i, o, ho => by simp at ho
  | x :: rest, k, h, 0, o, ho => by simp at ho; subst ho; exact h.1
  | x :: rest, k, h, i + 1, o, ho => by
    have := OpsOkR.at h.2 (i := i) (o := o) (by simpa using ho)
    rwa [Nat.add_assoc, Nat.add_comm 1 i] at this

/-- A REGION THAT DRAWS ITS ORDER: its first n operations by what each leaves, the others, which wait for all ahead of them, in the order of the text. -/
theorem wp_region_rel {id : Nat} {l : List Oper} {t0 : Array Value} {ds : List Deferred} {w0 : World} {N : Nat} (n : Nat) (hm : P.follows .mixedOrders = true) (hn : t0.size = N) (hB : regionL (l.take n) N = true) (hT : tailL l n = true) (hle : n ≤ l.length)
    (J : World → Prop) (Ext : World → World → Prop) (G : Nat → (Nat → Value) → World → Prop) (hst : ∀ k x w w', Ext w w' → G k x w → G k x w') (hdep : ∀ (k : Nat) (u u' : Nat → Value) (w : World), (∀ (j : Nat) (p o : Oper), l[j]? = some p → l[k]? = some o → (j = k ∨ (o.after.any fun e => Region.binds .any e && e.on == j) = true) → valOf u' p = valOf u p) → G k u w → G k u' w) (hJ : J w0.drew)
    (hop : OpsOkR P l.toArray Q (dstsOf (l.take n)) t0 N ds J Ext G 0 (l.take n))
    (hdone : ∀ (u : Nat → Value) (w : World), J w → (∀ (k : Nat) (o : Oper), (l.take n)[k]? = some o → G k u w) → wpList P l.toArray Q (l.drop n) { tmps := mixFrame (dstsOf (l.take n)) u t0, defers := ds } w) :
    (Code.region id l.toArray true).wp P Q { tmps := t0, defers := ds } w0 := by
  subst hn
  simp only [regionL, Bool.and_eq_true, List.all_eq_true, decide_eq_true_eq] at hB
  obtain ⟨⟨⟨hnd, hlt⟩, hgd⟩, hac⟩ := hB
  simp only [tailL, List.all_eq_true, List.mem_range, Bool.or_eq_true, decide_eq_true_eq] at hT
  have htk : ∀ {k : Nat} {o : Oper}, (l.take n)[k]? = some o ↔ k < n ∧ l[k]? = some o := by
    intro k o
    rw [List.getElem?_take]
    by_cases h : k < n
    · rw [if_pos h]; exact ⟨fun h1 => ⟨h, h1⟩, fun h1 => h1.2⟩
    · rw [if_neg h]; exact ⟨fun h1 => (by cases h1), fun h1 => absurd h1.1 h⟩
  refine wp_region_any hm (wpAny_invL (ops := l.toArray)
    (fun L a w => ((∀ i, n ≤ i → L.getD i false = false) ∧ ∃ u : Nat → Value, a = { tmps := mixFrame (dstsOf (l.take n)) u t0, defers := ds } ∧ J w ∧ ∀ (k : Nat) (o : Oper), (l.take n)[k]? = some o → L.getD k false = true → G k u w) ∨
      (∃ m, n ≤ m ∧ m ≤ l.length ∧ (∀ i, i < m → L.getD i false = true) ∧ (∀ i, m ≤ i → L.getD i false = false) ∧ wpList P l.toArray Q (l.drop m) a w))
    ?_ ?_ ?_ _ _ _ _ (by simp) (leftOf_le _ _) (fun j p hp hj => by simp [Array.getD] at hj) (.inl ⟨fun i _ => by rw [List.size_toArray]; simp [Array.getD], fun t => t0.getD t undef, by rw [mixFrame_start], hJ, fun k o _ h => ?_⟩))
  · intro i o ho e he hb
    have hi : i < l.length := (Array.getElem?_eq_some_iff.1 ho).1
    rw [List.getElem?_toArray] at ho
    by_cases hin : i < n
    · have h1 : (l.take n)[i]? = some o := htk.2 ⟨hin, ho⟩
      have := hac i (List.mem_range.2 (List.getElem?_eq_some_iff.1 h1).1)
      rw [h1] at this
      have h2 := Array.all_eq_true_iff_forall_mem.1 this e he
      rw [hb] at h2
      simpa using h2
    · have h1 := hT i hi
      rcases h1 with h1 | h1
      · omega
      · rw [ho] at h1
        simp only [Bool.and_eq_true] at h1
        have h2 := Array.all_eq_true_iff_forall_mem.1 h1.2 e he
        rw [hb] at h2
        simpa using h2
  · rintro L a w i o hs ho hi hall hcl hI
    rw [List.getElem?_toArray] at ho
    have hil : i < l.length := (List.getElem?_eq_some_iff.1 ho).1
    have hilt : i < L.size := by rw [hs]; simpa using hil
    have ahead : n ≤ i → ∀ j, j < i → L.getD j false = true := by
      intro hin j hj
      have h1 := hT i hil
      rcases h1 with h1 | h1
      · omega
      · simp only [Bool.and_eq_true, decide_eq_true_eq] at h1
        have hbit : ((masksOf l []).getD i 0).testBit j = true := by
          have h2 := congrArg (fun m => Nat.testBit m j) h1.1
          simp only [Nat.testBit_mod_two_pow, Nat.testBit_two_pow_sub_one, decide_eq_true hj, Bool.true_and] at h2
          exact h2
        exact masks_sound hcl l [] 0 rfl (fun j => by rw [Nat.zero_add]) (fun i hi => by omega) i o ho hall j hbit
    have later : ∀ (m : Nat), n ≤ m → m = i → (∀ j, m ≤ j → L.getD j false = false) → (∀ j, j < m → L.getD j false = true) → wpList P l.toArray Q (l.drop m) a w →
        wpOp P l.toArray Q i (fun a' w' => ((∀ k, n ≤ k → (L.setIfInBounds i true).getD k false = false) ∧ ∃ u : Nat → Value, a' = { tmps := mixFrame (dstsOf (l.take n)) u t0, defers := ds } ∧ J w' ∧ ∀ (k : Nat) (o : Oper), (l.take n)[k]? = some o → (L.setIfInBounds i true).getD k false = true → G k u w') ∨
          (∃ m, n ≤ m ∧ m ≤ l.length ∧ (∀ k, k < m → (L.setIfInBounds i true).getD k false = true) ∧ (∀ k, m ≤ k → (L.setIfInBounds i true).getD k false = false) ∧ wpList P l.toArray Q (l.drop m) a' w')) a w := by
      rintro m hnm rfl hno hyes hw
      refine wpOp_mono (fun a' w' h => .inr ⟨m + 1, by omega, by omega, fun k hk => ?_, fun k hk => ?_, h⟩) (wpOp_of_list ho hw)
      · by_cases e : k = m
        · subst e; exact set_same hilt
        · rw [set_else e]; exact hyes k (by omega)
      · rw [set_else (by omega)]; exact hno k (by omega)
    rcases hI with ⟨hno, u, rfl, hJw, hG⟩ | ⟨m, hnm, hml, hyes, hno, hw⟩
    · by_cases hin : i < n
      · have htki : (l.take n)[i]? = some o := htk.2 ⟨hin, ho⟩
        have hok := hop.at htki
        rw [Nat.zero_add] at hok
        have hg : o.guard = none := by
          have := hgd o (List.mem_of_getElem? htki)
          cases hx : o.guard with
          | none => rfl
          | some x => rw [hx] at this; cases this
        unfold wpOp
        simp only [List.getElem?_toArray, ho]
        rw [if_pos (by simp [Region.wanted, hg])]
        left
        refine hok u _ w (fun t ht => mixFrame_get ht) hJw (fun j p hj hp => ?_) _ (fun v w' hv hJ' hG' hE => .inl ⟨fun k hk => by rw [set_else (by omega)]; exact hno k hk, ?_⟩)
        · rw [List.getElem?_toArray] at hp
          obtain ⟨e, he, hbe⟩ := Array.any_eq_true.1 hj
          simp only [Bool.and_eq_true, beq_iff_eq] at hbe
          have hl := hall _ (Array.getElem_mem he) hbe.1
          rw [hbe.2] at hl
          have hjn : j < n := by
            by_cases h : j < n
            · exact h
            · rw [hno j (by omega)] at hl; cases hl
          exact hG j p (htk.2 ⟨hjn, hp⟩) hl
        · cases hd : o.dst with
          | none =>
            refine ⟨u, rfl, hJ', fun k p hp hk => ?_⟩
            by_cases e : k = i
            · subst e
              have := hG'
              unfold updR at this
              rw [hd] at this
              exact this
            · rw [set_else e] at hk
              exact hst _ _ _ _ hE (hG k p hp hk)
          | some d =>
            have hdm : (dstsOf (l.take n)).contains d = true := by
              simp only [List.contains_iff_mem]
              exact List.mem_filterMap.2 ⟨o, List.mem_of_getElem? htki, hd⟩
            refine ⟨fun t => if t = d then v else u t, by simp only [Act.put, mixFrame_put hdm], hJ', fun k p hp hk => ?_⟩
            by_cases e : k = i
            · subst e
              have := hG'
              unfold updR at this
              rw [hd] at this
              exact this
            · rw [set_else e] at hk
              refine hst _ _ _ _ hE (hdep k u _ w (fun j p' o' hj ho' hor => ?_) (hG k p hp hk))
              have hjl : L.getD j false = true := by
                rcases hor with rfl | hor
                · exact hk
                · obtain ⟨e', he', hbe⟩ := Array.any_eq_true.1 hor
                  simp only [Bool.and_eq_true, beq_iff_eq] at hbe
                  have := hcl k o' (by rw [List.getElem?_toArray]; exact ho') hk _ (Array.getElem_mem he') hbe.1
                  rw [hbe.2] at this
                  exact this
              have hji : j ≠ i := fun h => by rw [h, hi] at hjl; cases hjl
              have hjn : j < n := by
                by_cases h : j < n
                · exact h
                · rw [hno j (by omega)] at hjl; cases hjl
              have hne := nodup_slot hnd htki (htk.2 ⟨hjn, hj⟩) (fun h => hji h.symm) hd
              unfold valOf
              cases hpd : p'.dst with
              | none => rfl
              | some d' => exact if_neg (fun h => hne (by rw [hpd, h]))
      · have hin' : n = i := by
          by_cases e : n = i
          · exact e
          · have := ahead (by omega) n (by omega)
            rw [hno n (Nat.le_refl _)] at this
            cases this
        refine later n (Nat.le_refl _) hin' hno (fun j hj => ahead (by omega) j (by omega)) (hdone u w hJw fun k p hp => hG k p hp (ahead (by omega) k ?_))
        have := (htk.1 hp).1
        omega
    · have him : m ≤ i := by
        by_cases h : m ≤ i
        · exact h
        · have := hyes i (by omega); rw [hi] at this; cases this
      have hmi : m = i := by
        by_cases e : m = i
        · exact e
        · have := ahead (by omega) m (by omega)
          rw [hno m (Nat.le_refl _)] at this
          cases this
      exact later m hnm hmi hno hyes hw
  · rintro L a w hs hall hI
    rw [List.size_toArray] at hall
    rcases hI with ⟨hno, u, rfl, hJw, hG⟩ | ⟨m, hnm, hml, hyes, hno, hw⟩
    · have hnl : n = l.length := by
        by_cases e : n = l.length
        · exact e
        · have := hall n (by omega); rw [hno n (Nat.le_refl _)] at this; cases this
      have hq := hdone u w hJw fun k p hp => hG k p hp (hall k (by have := (htk.1 hp).1; omega))
      have hd : l.drop n = [] := by rw [hnl]; exact List.drop_length
      rw [hd] at hq
      exact hq
    · have hml' : m = l.length := by
        by_cases e : m = l.length
        · exact e
        · have := hall m (by omega); rw [hno m (Nat.le_refl _)] at this; cases this
      rw [hml', List.drop_length] at hw
      exact hw
  · rw [List.size_toArray] at h
    simp [Array.getD] at h
end
end

section
open Go.RowKit Go.Shelf
attribute [local go_sem] Oper.semAt_some

theorem infoR_uint64 : (Try.prog.info? 27).map (fun i => (i.zero, i.size, i.bytes)) = some (some (.int .u64 0), 1, 8) := by kernel_rfl
theorem Clone_uint64 (ga : Option Addr) (gc : Nat) (xs : List Int) (w : World) (hg : IsRow .u64 w ga xs) (hl : xs.length ≤ 100000) :
    Calls Try.prog 85 #[.slice ga xs.length gc] w (FreshRow .u64 27 w xs) := by
  have q22 : ∀ (w : World) (a : Option Addr) (n c n' c' : Nat), (binOp .eql 24 (.slice a n c) (.slice none n' c')).run Try.prog w = .ok (.bool a.isNone) w := fun w a n c n' c' => Lib.run_eql_slice_nil w _ _ a n c n' c' Try.underlying24
  have HG := Lib.hid hg
  clear hg
  cases ga with
  | none =>
    have hx : xs = [] := row_none HG.out
    subst hx
    go_enter Try.func85, Try.ntmps85
    go_wp2
    go_ret
    exact ⟨_, rfl, World.ownsRow_nil _ _ _ _, Below.refl _ _⟩
  | some a =>
    have HN := Lib.hid (row_news HG.out)
    go_enter Try.func85, Try.ntmps85
    go_wp2_with (at_builtin; refine wpl_append (.tmp 5) (.tmp 6) 24 27 (.int .u64 0) 1 8 Try.underlying24 infoR_uint64 rfl (by decide) (by decide) w.heap.size _ 0 [] (some a) xs.length gc (xs.map (Value.int .u64)) (World.ownsRow_made w #[] 0 (Nat.le_refl _) (Nat.zero_le _) rfl) (by simp) (fun h => by cases h) (fun ad h j u hj => Lib.cell?_alloc_some _ (HN.out ad h j u hj)) (numCells _) (by omega) (by simp) rfl rfl rfl rfl ?_; intro v' w1 hown hgrow _)
    go_wp2
    go_ret
    refine ⟨v', rfl, by simpa using hown, ?_⟩
    exact ((Below.refl _ w).alloc (Nat.le_refl _) _).grown hgrow (by simp) (by intro k hk; simp [Value.ownBlock] at hk; omega)


/-- a row of one's own -/
def FactR.row (base : Nat) (e : TypeId) (n : Nat) (xs : List Value) : FactR RB := ⟨fun v w => w.ownsRow base e 1 v n xs, fun _ _ _ h k => owns_below k h⟩

/-- facts by the slots ds, and that the rows of two operations lie apart -/
def relAt (ds : List Nat) (fs : List (FactR RB)) (k : Nat) (u : Nat → Value) (w : World) : Prop := factRAt fs k (u (ds.getD k 0)) w ∧ (k = 8 → ∀ p q, (u 8).ownBlock = some p → (u 11).ownBlock = some q → p ≠ q)
theorem relAt_stays (ds : List Nat) (fs : List (FactR RB)) (k : Nat) (u : Nat → Value) (w w' : World) (h : RB w w') : relAt ds fs k u w → relAt ds fs k u w' := fun ⟨h1, h2⟩ => ⟨factRAt_stays fs k _ w w' h h1, h2⟩
theorem relAt_dep {l : List Oper} (ds : List Nat) (fs : List (FactR RB)) (h : (List.range l.length).all (fun k => match l[k]? with | some o => decide (13 ≤ k) || o.dst == some (ds.getD k 0) | none => true) = true)
    (h8 : (match l[8]?, l[5]? with | some o, some p => o.dst == some 11 && p.dst == some 8 && (o.after.any fun e => Region.binds .any e && e.on == 5) | _, _ => false) = true) (hfs : fs.length ≤ 13) (hll : 13 ≤ l.length) :
    ∀ (k : Nat) (u u' : Nat → Value) (w : World), (∀ (j : Nat) (p o : Oper), l[j]? = some p → l[k]? = some o → (j = k ∨ (o.after.any fun e => Region.binds .any e && e.on == j) = true) → valOf u' p = valOf u p) → relAt ds fs k u w → relAt ds fs k u' w := by
  intro k u u' w hv hg
  refine ⟨?_, ?_⟩
  · by_cases hk : 13 ≤ k
    · have e : factRAt fs k = fun _ _ => True := by funext v x; unfold factRAt; rw [List.getD_eq_getElem?_getD, List.getElem?_eq_none (by omega)]; rfl
      rw [e]; trivial
    · by_cases hl : k < l.length
      · have h1 := List.all_eq_true.1 h k (List.mem_range.2 hl)
        have ho : l[k]? = some l[k] := List.getElem?_eq_getElem hl
        rw [ho] at h1
        simp only [Bool.or_eq_true, decide_eq_true_eq, beq_iff_eq] at h1
        have h2 := h1.resolve_left hk
        have h3 := hv k _ _ ho ho (.inl rfl)
        simp only [valOf, h2] at h3
        rw [h3]
        exact hg.1
      · omega
  · rintro rfl p q hp hq
    cases ho : l[8]? with
    | none => rw [ho] at h8; cases h8
    | some o =>
      cases hp5 : l[5]? with
      | none => rw [ho, hp5] at h8; cases h8
      | some p5 =>
        rw [ho, hp5] at h8
        simp only [Bool.and_eq_true, beq_iff_eq] at h8
        have e1 := hv 8 _ _ ho ho (.inl rfl)
        have e2 := hv 5 _ _ hp5 ho (.inr h8.2)
        simp only [valOf, h8.1.1, h8.1.2] at e1 e2
        rw [e1] at hq
        rw [e2] at hp
        exact hg.2 rfl p q hp hq

set_option maxRecDepth 100000 in
set_option maxHeartbeats 2000000 in
theorem slTwin_ok (c : SlC) (a : SlA) (w : World) (hin : SlIn w c a) (hl1 : c.ws.length ≤ 100000) (hl2 : c.ks.length ≤ 100000) (hl3 : c.vs.length ≤ 100000) (hl4 : c.cs.length ≤ 100000) :
    Calls Try.prog 66 #[slV c a] w (FreshSlN w c) := by
  have C1 := Lib.hid (fun W (hb : Below w.heap.size w W) => Clone_uint64 a.wa a.wc c.ws W (hin.w.below hb) hl1)
  have C2 := Lib.hid (fun W (hb : Below w.heap.size w W) => Clone_int64 a.ka a.kc c.ks W (hin.k.below hb) hl2)
  have C3 := Lib.hid (fun W (hb : Below w.heap.size w W) => Clone_int64 a.va a.vc c.vs W (hin.v.below hb) hl3)
  have C4 := Lib.hid (fun W (hb : Below w.heap.size w W) => Clone_int a.ca a.cc c.cs W (hin.n.below hb) hl4)
  obtain ⟨seg, ws, ks, vs, cs, laid⟩ := c
  obtain ⟨wa, ka, va, ca, wc, kc, vc, cc⟩ := a
  dsimp only [slV, FreshSlN, FreshRow] at *
  obtain ⟨lw, hw⟩ : ∃ n, ws.length = n := ⟨_, rfl⟩
  obtain ⟨lk, hk⟩ : ∃ n, ks.length = n := ⟨_, rfl⟩
  obtain ⟨lv, hv⟩ : ∃ n, vs.length = n := ⟨_, rfl⟩
  obtain ⟨lc, hc⟩ : ∃ n, cs.length = n := ⟨_, rfl⟩
  rw [hw] at C1 ⊢
  rw [hk] at C2 ⊢
  rw [hv] at C3 ⊢
  rw [hc] at C4 ⊢
  have HL1 := Lib.hid hw
  have HL2 := Lib.hid hk
  have HL3 := Lib.hid hv
  have HL4 := Lib.hid hc
  clear hw hk hv hc hin hl1 hl2 hl3 hl4
  go_enter Try.func66, Try.ntmps66
  go_wp2
  generalize hwz : (w.alloc (.cells #[.int .i64 seg, .slice wa lw wc, .slice ka lk kc, .slice va lv vc, .slice ca lc cc, .int .u64 laid] 29)).alloc (.cells #[.int .i64 0, .slice none 0 0, .slice none 0 0, .slice none 0 0, .slice none 0 0, .int .u64 0] 29) = wz
  have c_t0 : wz.cell? ⟨w.heap.size, 0, none⟩ = some (.int .i64 seg) := by rw [← hwz]; (first | (with_reducible assumption) | ((simp only [World.frozen?_setCell, World.frozen?_drew, World.frozen?_drewN]) <;> (with_reducible assumption)) | ((repeat (first | (with_reducible assumption) | (with_reducible refine World.cell?_setCell_same _ _ _ (by with_reducible assumption)) | (rw [World.cell?_setCell_other _ _ _ _ (by intro e; simp at e; done)]) | (with_reducible refine cell_setCell_block ?_ ?_) | (rw [World.cell?_drew]) | (rw [World.cell?_drewN]) | (dsimp only; omega))); done) | (first | (with_reducible assumption) | ((try simp (disch := first | omega | (simp only [szW] <;> omega) | fail) only [ceW]) <;> first | (with_reducible assumption) | rfl)))
  have f_t0 : wz.frozen? ⟨w.heap.size, 0, none⟩ = false := by rw [← hwz]; (first | (with_reducible assumption) | ((simp only [World.frozen?_setCell, World.frozen?_drew, World.frozen?_drewN]) <;> (with_reducible assumption)) | ((repeat (first | (with_reducible assumption) | (with_reducible refine World.cell?_setCell_same _ _ _ (by with_reducible assumption)) | (rw [World.cell?_setCell_other _ _ _ _ (by intro e; simp at e; done)]) | (with_reducible refine cell_setCell_block ?_ ?_) | (rw [World.cell?_drew]) | (rw [World.cell?_drewN]) | (dsimp only; omega))); done) | (first | (with_reducible assumption) | ((try simp (disch := first | omega | (simp only [szW] <;> omega) | fail) only [ceW]) <;> first | (with_reducible assumption) | rfl)))
  have c_t1 : wz.cell? ⟨w.heap.size, 1, none⟩ = some (.slice wa lw wc) := by rw [← hwz]; (first | (with_reducible assumption) | ((simp only [World.frozen?_setCell, World.frozen?_drew, World.frozen?_drewN]) <;> (with_reducible assumption)) | ((repeat (first | (with_reducible assumption) | (with_reducible refine World.cell?_setCell_same _ _ _ (by with_reducible assumption)) | (rw [World.cell?_setCell_other _ _ _ _ (by intro e; simp at e; done)]) | (with_reducible refine cell_setCell_block ?_ ?_) | (rw [World.cell?_drew]) | (rw [World.cell?_drewN]) | (dsimp only; omega))); done) | (first | (with_reducible assumption) | ((try simp (disch := first | omega | (simp only [szW] <;> omega) | fail) only [ceW]) <;> first | (with_reducible assumption) | rfl)))
  have f_t1 : wz.frozen? ⟨w.heap.size, 1, none⟩ = false := by rw [← hwz]; (first | (with_reducible assumption) | ((simp only [World.frozen?_setCell, World.frozen?_drew, World.frozen?_drewN]) <;> (with_reducible assumption)) | ((repeat (first | (with_reducible assumption) | (with_reducible refine World.cell?_setCell_same _ _ _ (by with_reducible assumption)) | (rw [World.cell?_setCell_other _ _ _ _ (by intro e; simp at e; done)]) | (with_reducible refine cell_setCell_block ?_ ?_) | (rw [World.cell?_drew]) | (rw [World.cell?_drewN]) | (dsimp only; omega))); done) | (first | (with_reducible assumption) | ((try simp (disch := first | omega | (simp only [szW] <;> omega) | fail) only [ceW]) <;> first | (with_reducible assumption) | rfl)))
  have c_t2 : wz.cell? ⟨w.heap.size, 2, none⟩ = some (.slice ka lk kc) := by rw [← hwz]; (first | (with_reducible assumption) | ((simp only [World.frozen?_setCell, World.frozen?_drew, World.frozen?_drewN]) <;> (with_reducible assumption)) | ((repeat (first | (with_reducible assumption) | (with_reducible refine World.cell?_setCell_same _ _ _ (by with_reducible assumption)) | (rw [World.cell?_setCell_other _ _ _ _ (by intro e; simp at e; done)]) | (with_reducible refine cell_setCell_block ?_ ?_) | (rw [World.cell?_drew]) | (rw [World.cell?_drewN]) | (dsimp only; omega))); done) | (first | (with_reducible assumption) | ((try simp (disch := first | omega | (simp only [szW] <;> omega) | fail) only [ceW]) <;> first | (with_reducible assumption) | rfl)))
  have f_t2 : wz.frozen? ⟨w.heap.size, 2, none⟩ = false := by rw [← hwz]; (first | (with_reducible assumption) | ((simp only [World.frozen?_setCell, World.frozen?_drew, World.frozen?_drewN]) <;> (with_reducible assumption)) | ((repeat (first | (with_reducible assumption) | (with_reducible refine World.cell?_setCell_same _ _ _ (by with_reducible assumption)) | (rw [World.cell?_setCell_other _ _ _ _ (by intro e; simp at e; done)]) | (with_reducible refine cell_setCell_block ?_ ?_) | (rw [World.cell?_drew]) | (rw [World.cell?_drewN]) | (dsimp only; omega))); done) | (first | (with_reducible assumption) | ((try simp (disch := first | omega | (simp only [szW] <;> omega) | fail) only [ceW]) <;> first | (with_reducible assumption) | rfl)))
  have c_t3 : wz.cell? ⟨w.heap.size, 3, none⟩ = some (.slice va lv vc) := by rw [← hwz]; (first | (with_reducible assumption) | ((simp only [World.frozen?_setCell, World.frozen?_drew, World.frozen?_drewN]) <;> (with_reducible assumption)) | ((repeat (first | (with_reducible assumption) | (with_reducible refine World.cell?_setCell_same _ _ _ (by with_reducible assumption)) | (rw [World.cell?_setCell_other _ _ _ _ (by intro e; simp at e; done)]) | (with_reducible refine cell_setCell_block ?_ ?_) | (rw [World.cell?_drew]) | (rw [World.cell?_drewN]) | (dsimp only; omega))); done) | (first | (with_reducible assumption) | ((try simp (disch := first | omega | (simp only [szW] <;> omega) | fail) only [ceW]) <;> first | (with_reducible assumption) | rfl)))
  have f_t3 : wz.frozen? ⟨w.heap.size, 3, none⟩ = false := by rw [← hwz]; (first | (with_reducible assumption) | ((simp only [World.frozen?_setCell, World.frozen?_drew, World.frozen?_drewN]) <;> (with_reducible assumption)) | ((repeat (first | (with_reducible assumption) | (with_reducible refine World.cell?_setCell_same _ _ _ (by with_reducible assumption)) | (rw [World.cell?_setCell_other _ _ _ _ (by intro e; simp at e; done)]) | (with_reducible refine cell_setCell_block ?_ ?_) | (rw [World.cell?_drew]) | (rw [World.cell?_drewN]) | (dsimp only; omega))); done) | (first | (with_reducible assumption) | ((try simp (disch := first | omega | (simp only [szW] <;> omega) | fail) only [ceW]) <;> first | (with_reducible assumption) | rfl)))
  have c_t4 : wz.cell? ⟨w.heap.size, 4, none⟩ = some (.slice ca lc cc) := by rw [← hwz]; (first | (with_reducible assumption) | ((simp only [World.frozen?_setCell, World.frozen?_drew, World.frozen?_drewN]) <;> (with_reducible assumption)) | ((repeat (first | (with_reducible assumption) | (with_reducible refine World.cell?_setCell_same _ _ _ (by with_reducible assumption)) | (rw [World.cell?_setCell_other _ _ _ _ (by intro e; simp at e; done)]) | (with_reducible refine cell_setCell_block ?_ ?_) | (rw [World.cell?_drew]) | (rw [World.cell?_drewN]) | (dsimp only; omega))); done) | (first | (with_reducible assumption) | ((try simp (disch := first | omega | (simp only [szW] <;> omega) | fail) only [ceW]) <;> first | (with_reducible assumption) | rfl)))
  have f_t4 : wz.frozen? ⟨w.heap.size, 4, none⟩ = false := by rw [← hwz]; (first | (with_reducible assumption) | ((simp only [World.frozen?_setCell, World.frozen?_drew, World.frozen?_drewN]) <;> (with_reducible assumption)) | ((repeat (first | (with_reducible assumption) | (with_reducible refine World.cell?_setCell_same _ _ _ (by with_reducible assumption)) | (rw [World.cell?_setCell_other _ _ _ _ (by intro e; simp at e; done)]) | (with_reducible refine cell_setCell_block ?_ ?_) | (rw [World.cell?_drew]) | (rw [World.cell?_drewN]) | (dsimp only; omega))); done) | (first | (with_reducible assumption) | ((try simp (disch := first | omega | (simp only [szW] <;> omega) | fail) only [ceW]) <;> first | (with_reducible assumption) | rfl)))
  have c_t5 : wz.cell? ⟨w.heap.size, 5, none⟩ = some (.int .u64 laid) := by rw [← hwz]; (first | (with_reducible assumption) | ((simp only [World.frozen?_setCell, World.frozen?_drew, World.frozen?_drewN]) <;> (with_reducible assumption)) | ((repeat (first | (with_reducible assumption) | (with_reducible refine World.cell?_setCell_same _ _ _ (by with_reducible assumption)) | (rw [World.cell?_setCell_other _ _ _ _ (by intro e; simp at e; done)]) | (with_reducible refine cell_setCell_block ?_ ?_) | (rw [World.cell?_drew]) | (rw [World.cell?_drewN]) | (dsimp only; omega))); done) | (first | (with_reducible assumption) | ((try simp (disch := first | omega | (simp only [szW] <;> omega) | fail) only [ceW]) <;> first | (with_reducible assumption) | rfl)))
  have f_t5 : wz.frozen? ⟨w.heap.size, 5, none⟩ = false := by rw [← hwz]; (first | (with_reducible assumption) | ((simp only [World.frozen?_setCell, World.frozen?_drew, World.frozen?_drewN]) <;> (with_reducible assumption)) | ((repeat (first | (with_reducible assumption) | (with_reducible refine World.cell?_setCell_same _ _ _ (by with_reducible assumption)) | (rw [World.cell?_setCell_other _ _ _ _ (by intro e; simp at e; done)]) | (with_reducible refine cell_setCell_block ?_ ?_) | (rw [World.cell?_drew]) | (rw [World.cell?_drewN]) | (dsimp only; omega))); done) | (first | (with_reducible assumption) | ((try simp (disch := first | omega | (simp only [szW] <;> omega) | fail) only [ceW]) <;> first | (with_reducible assumption) | rfl)))
  have z_t : w.heap.size < wz.heap.size := by rw [← hwz]; (first | (with_reducible assumption) | omega | (simp only [szW] <;> omega) | (simp <;> omega))
  have c_r0 : wz.cell? ⟨w.heap.size + 1, 0, none⟩ = some (.int .i64 0) := by rw [← hwz]; (first | (with_reducible assumption) | ((simp only [World.frozen?_setCell, World.frozen?_drew, World.frozen?_drewN]) <;> (with_reducible assumption)) | ((repeat (first | (with_reducible assumption) | (with_reducible refine World.cell?_setCell_same _ _ _ (by with_reducible assumption)) | (rw [World.cell?_setCell_other _ _ _ _ (by intro e; simp at e; done)]) | (with_reducible refine cell_setCell_block ?_ ?_) | (rw [World.cell?_drew]) | (rw [World.cell?_drewN]) | (dsimp only; omega))); done) | (first | (with_reducible assumption) | ((try simp (disch := first | omega | (simp only [szW] <;> omega) | fail) only [ceW]) <;> first | (with_reducible assumption) | rfl)))
  have f_r0 : wz.frozen? ⟨w.heap.size + 1, 0, none⟩ = false := by rw [← hwz]; (first | (with_reducible assumption) | ((simp only [World.frozen?_setCell, World.frozen?_drew, World.frozen?_drewN]) <;> (with_reducible assumption)) | ((repeat (first | (with_reducible assumption) | (with_reducible refine World.cell?_setCell_same _ _ _ (by with_reducible assumption)) | (rw [World.cell?_setCell_other _ _ _ _ (by intro e; simp at e; done)]) | (with_reducible refine cell_setCell_block ?_ ?_) | (rw [World.cell?_drew]) | (rw [World.cell?_drewN]) | (dsimp only; omega))); done) | (first | (with_reducible assumption) | ((try simp (disch := first | omega | (simp only [szW] <;> omega) | fail) only [ceW]) <;> first | (with_reducible assumption) | rfl)))
  have c_r1 : wz.cell? ⟨w.heap.size + 1, 1, none⟩ = some (.slice none 0 0) := by rw [← hwz]; (first | (with_reducible assumption) | ((simp only [World.frozen?_setCell, World.frozen?_drew, World.frozen?_drewN]) <;> (with_reducible assumption)) | ((repeat (first | (with_reducible assumption) | (with_reducible refine World.cell?_setCell_same _ _ _ (by with_reducible assumption)) | (rw [World.cell?_setCell_other _ _ _ _ (by intro e; simp at e; done)]) | (with_reducible refine cell_setCell_block ?_ ?_) | (rw [World.cell?_drew]) | (rw [World.cell?_drewN]) | (dsimp only; omega))); done) | (first | (with_reducible assumption) | ((try simp (disch := first | omega | (simp only [szW] <;> omega) | fail) only [ceW]) <;> first | (with_reducible assumption) | rfl)))
  have f_r1 : wz.frozen? ⟨w.heap.size + 1, 1, none⟩ = false := by rw [← hwz]; (first | (with_reducible assumption) | ((simp only [World.frozen?_setCell, World.frozen?_drew, World.frozen?_drewN]) <;> (with_reducible assumption)) | ((repeat (first | (with_reducible assumption) | (with_reducible refine World.cell?_setCell_same _ _ _ (by with_reducible assumption)) | (rw [World.cell?_setCell_other _ _ _ _ (by intro e; simp at e; done)]) | (with_reducible refine cell_setCell_block ?_ ?_) | (rw [World.cell?_drew]) | (rw [World.cell?_drewN]) | (dsimp only; omega))); done) | (first | (with_reducible assumption) | ((try simp (disch := first | omega | (simp only [szW] <;> omega) | fail) only [ceW]) <;> first | (with_reducible assumption) | rfl)))
  have c_r2 : wz.cell? ⟨w.heap.size + 1, 2, none⟩ = some (.slice none 0 0) := by rw [← hwz]; (first | (with_reducible assumption) | ((simp only [World.frozen?_setCell, World.frozen?_drew, World.frozen?_drewN]) <;> (with_reducible assumption)) | ((repeat (first | (with_reducible assumption) | (with_reducible refine World.cell?_setCell_same _ _ _ (by with_reducible assumption)) | (rw [World.cell?_setCell_other _ _ _ _ (by intro e; simp at e; done)]) | (with_reducible refine cell_setCell_block ?_ ?_) | (rw [World.cell?_drew]) | (rw [World.cell?_drewN]) | (dsimp only; omega))); done) | (first | (with_reducible assumption) | ((try simp (disch := first | omega | (simp only [szW] <;> omega) | fail) only [ceW]) <;> first | (with_reducible assumption) | rfl)))
  have f_r2 : wz.frozen? ⟨w.heap.size + 1, 2, none⟩ = false := by rw [← hwz]; (first | (with_reducible assumption) | ((simp only [World.frozen?_setCell, World.frozen?_drew, World.frozen?_drewN]) <;> (with_reducible assumption)) | ((repeat (first | (with_reducible assumption) | (with_reducible refine World.cell?_setCell_same _ _ _ (by with_reducible assumption)) | (rw [World.cell?_setCell_other _ _ _ _ (by intro e; simp at e; done)]) | (with_reducible refine cell_setCell_block ?_ ?_) | (rw [World.cell?_drew]) | (rw [World.cell?_drewN]) | (dsimp only; omega))); done) | (first | (with_reducible assumption) | ((try simp (disch := first | omega | (simp only [szW] <;> omega) | fail) only [ceW]) <;> first | (with_reducible assumption) | rfl)))
  have c_r3 : wz.cell? ⟨w.heap.size + 1, 3, none⟩ = some (.slice none 0 0) := by rw [← hwz]; (first | (with_reducible assumption) | ((simp only [World.frozen?_setCell, World.frozen?_drew, World.frozen?_drewN]) <;> (with_reducible assumption)) | ((repeat (first | (with_reducible assumption) | (with_reducible refine World.cell?_setCell_same _ _ _ (by with_reducible assumption)) | (rw [World.cell?_setCell_other _ _ _ _ (by intro e; simp at e; done)]) | (with_reducible refine cell_setCell_block ?_ ?_) | (rw [World.cell?_drew]) | (rw [World.cell?_drewN]) | (dsimp only; omega))); done) | (first | (with_reducible assumption) | ((try simp (disch := first | omega | (simp only [szW] <;> omega) | fail) only [ceW]) <;> first | (with_reducible assumption) | rfl)))
  have f_r3 : wz.frozen? ⟨w.heap.size + 1, 3, none⟩ = false := by rw [← hwz]; (first | (with_reducible assumption) | ((simp only [World.frozen?_setCell, World.frozen?_drew, World.frozen?_drewN]) <;> (with_reducible assumption)) | ((repeat (first | (with_reducible assumption) | (with_reducible refine World.cell?_setCell_same _ _ _ (by with_reducible assumption)) | (rw [World.cell?_setCell_other _ _ _ _ (by intro e; simp at e; done)]) | (with_reducible refine cell_setCell_block ?_ ?_) | (rw [World.cell?_drew]) | (rw [World.cell?_drewN]) | (dsimp only; omega))); done) | (first | (with_reducible assumption) | ((try simp (disch := first | omega | (simp only [szW] <;> omega) | fail) only [ceW]) <;> first | (with_reducible assumption) | rfl)))
  have c_r4 : wz.cell? ⟨w.heap.size + 1, 4, none⟩ = some (.slice none 0 0) := by rw [← hwz]; (first | (with_reducible assumption) | ((simp only [World.frozen?_setCell, World.frozen?_drew, World.frozen?_drewN]) <;> (with_reducible assumption)) | ((repeat (first | (with_reducible assumption) | (with_reducible refine World.cell?_setCell_same _ _ _ (by with_reducible assumption)) | (rw [World.cell?_setCell_other _ _ _ _ (by intro e; simp at e; done)]) | (with_reducible refine cell_setCell_block ?_ ?_) | (rw [World.cell?_drew]) | (rw [World.cell?_drewN]) | (dsimp only; omega))); done) | (first | (with_reducible assumption) | ((try simp (disch := first | omega | (simp only [szW] <;> omega) | fail) only [ceW]) <;> first | (with_reducible assumption) | rfl)))
  have f_r4 : wz.frozen? ⟨w.heap.size + 1, 4, none⟩ = false := by rw [← hwz]; (first | (with_reducible assumption) | ((simp only [World.frozen?_setCell, World.frozen?_drew, World.frozen?_drewN]) <;> (with_reducible assumption)) | ((repeat (first | (with_reducible assumption) | (with_reducible refine World.cell?_setCell_same _ _ _ (by with_reducible assumption)) | (rw [World.cell?_setCell_other _ _ _ _ (by intro e; simp at e; done)]) | (with_reducible refine cell_setCell_block ?_ ?_) | (rw [World.cell?_drew]) | (rw [World.cell?_drewN]) | (dsimp only; omega))); done) | (first | (with_reducible assumption) | ((try simp (disch := first | omega | (simp only [szW] <;> omega) | fail) only [ceW]) <;> first | (with_reducible assumption) | rfl)))
  have c_r5 : wz.cell? ⟨w.heap.size + 1, 5, none⟩ = some (.int .u64 0) := by rw [← hwz]; (first | (with_reducible assumption) | ((simp only [World.frozen?_setCell, World.frozen?_drew, World.frozen?_drewN]) <;> (with_reducible assumption)) | ((repeat (first | (with_reducible assumption) | (with_reducible refine World.cell?_setCell_same _ _ _ (by with_reducible assumption)) | (rw [World.cell?_setCell_other _ _ _ _ (by intro e; simp at e; done)]) | (with_reducible refine cell_setCell_block ?_ ?_) | (rw [World.cell?_drew]) | (rw [World.cell?_drewN]) | (dsimp only; omega))); done) | (first | (with_reducible assumption) | ((try simp (disch := first | omega | (simp only [szW] <;> omega) | fail) only [ceW]) <;> first | (with_reducible assumption) | rfl)))
  have f_r5 : wz.frozen? ⟨w.heap.size + 1, 5, none⟩ = false := by rw [← hwz]; (first | (with_reducible assumption) | ((simp only [World.frozen?_setCell, World.frozen?_drew, World.frozen?_drewN]) <;> (with_reducible assumption)) | ((repeat (first | (with_reducible assumption) | (with_reducible refine World.cell?_setCell_same _ _ _ (by with_reducible assumption)) | (rw [World.cell?_setCell_other _ _ _ _ (by intro e; simp at e; done)]) | (with_reducible refine cell_setCell_block ?_ ?_) | (rw [World.cell?_drew]) | (rw [World.cell?_drewN]) | (dsimp only; omega))); done) | (first | (with_reducible assumption) | ((try simp (disch := first | omega | (simp only [szW] <;> omega) | fail) only [ceW]) <;> first | (with_reducible assumption) | rfl)))
  have z_r : w.heap.size + 1 < wz.heap.size := by rw [← hwz]; (first | (with_reducible assumption) | omega | (simp only [szW] <;> omega) | (simp <;> omega))
  have HS : Hid (Below w.heap.size w wz) := by rw [← hwz]; exact Lib.hid (((Below.refl _ _).alloc (Nat.le_refl _) _).alloc (by simp) _)
  have hz : w.heap.size + 2 = wz.heap.size := by rw [← hwz]; simp
  clear hwz
  refine wp_region_rel 13 (by kernel_rfl) (N := 20) rfl (by kernel_rfl) (by kernel_rfl) (by decide) (fun w' => Below wz.heap.size wz w') RB (relAt [3, 4, 5, 6, 7, 8, 9, 10, 11, 12, 13, 14, 15] [.is (.pointer (some ⟨w.heap.size, 1, none⟩)), .is (.slice wa lw wc), .row wz.heap.size 27 lw (ws.map (Value.int .u64)), .is (.pointer (some ⟨w.heap.size, 2, none⟩)), .is (.slice ka lk kc), .row wz.heap.size 2 lk (ks.map (Value.int .i64)), .is (.pointer (some ⟨w.heap.size, 3, none⟩)), .is (.slice va lv vc), .row wz.heap.size 2 lv (vs.map (Value.int .i64)), .is (.pointer (some ⟨w.heap.size, 4, none⟩)), .is (.slice ca lc cc), .row wz.heap.size 3 lc (cs.map (Value.int .i64)), .is (.pointer (some ⟨w.heap.size, 1, none⟩))]) (relAt_stays _ _) ?dep (Below.refl _ _).drew ?steps ?fin
  case dep =>
    exact relAt_dep _ _ (by kernel_rfl) (by kernel_rfl) (Nat.le_refl 13) (by decide)
  case steps =>
    refine ⟨?o0, ?o1, ?o2, ?o3, ?o4, ?o5, ?o6, ?o7, ?o8, ?o9, ?o10, ?o11, ?o12, trivial⟩
    case o0 =>
      intro u a w' ev hJ hd K hK
      have e1 : a.tmps.getD 1 undef = .pointer (some ⟨w.heap.size, 0, none⟩) := ev 1 (by decide)
      have HK := Lib.hid hK
      clear hK ev hd
      go_simp
      exact HK.out _ _ (fun h => by cases h) hJ ⟨rfl, fun h => absurd h (by decide)⟩ (Below.refl _ _)
    case o1 =>
      intro u a w' ev hJ hd K hK
      have e3 : a.tmps.getD 3 undef = .pointer (some ⟨w.heap.size, 1, none⟩) := (ev 3 (by decide)).trans (hd 0 _ (by kernel_rfl) rfl).1
      have g0 := (hJ.cell (p := ⟨w.heap.size, 1, none⟩) (by dsimp only; omega)).trans c_t1
      have HK := Lib.hid hK
      clear hK ev hd
      go_simp
      exact HK.out _ _ (fun h => by cases h) hJ ⟨rfl, fun h => absurd h (by decide)⟩ (Below.refl _ _)
    case o2 =>
      intro u a w' ev hJ hd K hK
      have e4 : a.tmps.getD 4 undef = .slice wa lw wc := (ev 4 (by decide)).trans (hd 1 _ (by kernel_rfl) rfl).1
      have HK := Lib.hid hK
      have HC := Lib.hid (C1.out w' (below_via hJ HS.out (by omega)))
      have hzJ := hJ.size
      clear hK ev hd
      go_simp
      refine HC.out.mono ?_
      rintro e w'' ⟨v, rfl, ho, hb⟩
      exact HK.out _ _ (fun h => by cases h) (hJ.trans (hb.mono hzJ)) ⟨owns_base (HL1.out ▸ ho) hzJ, fun h => absurd h (by decide)⟩ hb
    case o3 =>
      intro u a w' ev hJ hd K hK
      have e1 : a.tmps.getD 1 undef = .pointer (some ⟨w.heap.size, 0, none⟩) := ev 1 (by decide)
      have HK := Lib.hid hK
      clear hK ev hd
      go_simp
      exact HK.out _ _ (fun h => by cases h) hJ ⟨rfl, fun h => absurd h (by decide)⟩ (Below.refl _ _)
    case o4 =>
      intro u a w' ev hJ hd K hK
      have e6 : a.tmps.getD 6 undef = .pointer (some ⟨w.heap.size, 2, none⟩) := (ev 6 (by decide)).trans (hd 3 _ (by kernel_rfl) rfl).1
      have g0 := (hJ.cell (p := ⟨w.heap.size, 2, none⟩) (by dsimp only; omega)).trans c_t2
      have HK := Lib.hid hK
      clear hK ev hd
      go_simp
      exact HK.out _ _ (fun h => by cases h) hJ ⟨rfl, fun h => absurd h (by decide)⟩ (Below.refl _ _)
    case o5 =>
      intro u a w' ev hJ hd K hK
      have e7 : a.tmps.getD 7 undef = .slice ka lk kc := (ev 7 (by decide)).trans (hd 4 _ (by kernel_rfl) rfl).1
      have HK := Lib.hid hK
      have HC := Lib.hid (C2.out w' (below_via hJ HS.out (by omega)))
      have hzJ := hJ.size
      clear hK ev hd
      go_simp
      refine HC.out.mono ?_
      rintro e w'' ⟨v, rfl, ho, hb⟩
      exact HK.out _ _ (fun h => by cases h) (hJ.trans (hb.mono hzJ)) ⟨owns_base (HL2.out ▸ ho) hzJ, fun h => absurd h (by decide)⟩ hb
    case o6 =>
      intro u a w' ev hJ hd K hK
      have e1 : a.tmps.getD 1 undef = .pointer (some ⟨w.heap.size, 0, none⟩) := ev 1 (by decide)
      have HK := Lib.hid hK
      clear hK ev hd
      go_simp
      exact HK.out _ _ (fun h => by cases h) hJ ⟨rfl, fun h => absurd h (by decide)⟩ (Below.refl _ _)
    case o7 =>
      intro u a w' ev hJ hd K hK
      have e9 : a.tmps.getD 9 undef = .pointer (some ⟨w.heap.size, 3, none⟩) := (ev 9 (by decide)).trans (hd 6 _ (by kernel_rfl) rfl).1
      have g0 := (hJ.cell (p := ⟨w.heap.size, 3, none⟩) (by dsimp only; omega)).trans c_t3
      have HK := Lib.hid hK
      clear hK ev hd
      go_simp
      exact HK.out _ _ (fun h => by cases h) hJ ⟨rfl, fun h => absurd h (by decide)⟩ (Below.refl _ _)
    case o8 =>
      intro u a w' ev hJ hd K hK
      have e10 : a.tmps.getD 10 undef = .slice va lv vc := (ev 10 (by decide)).trans (hd 7 _ (by kernel_rfl) rfl).1
      have H5 : Hid (w'.ownsRow wz.heap.size 2 1 (u 8) lk (ks.map (Value.int .i64))) := Lib.hid (hd 5 _ (by kernel_rfl) rfl).1
      have HK := Lib.hid hK
      have HC := Lib.hid (C3.out w' (below_via hJ HS.out (by omega)))
      have hzJ := hJ.size
      clear hK ev hd
      go_simp
      refine HC.out.mono ?_
      rintro e w'' ⟨v, rfl, ho, hb⟩
      exact HK.out _ _ (fun h => by cases h) (hJ.trans (hb.mono hzJ)) ⟨owns_base (HL3.out ▸ ho) hzJ, fun _ p q hp hq => by have h1 := (H5.out.lt p hp).2; have h2 := (ho.lt q hq).1; omega⟩ hb
    case o9 =>
      intro u a w' ev hJ hd K hK
      have e1 : a.tmps.getD 1 undef = .pointer (some ⟨w.heap.size, 0, none⟩) := ev 1 (by decide)
      have HK := Lib.hid hK
      clear hK ev hd
      go_simp
      exact HK.out _ _ (fun h => by cases h) hJ ⟨rfl, fun h => absurd h (by decide)⟩ (Below.refl _ _)
    case o10 =>
      intro u a w' ev hJ hd K hK
      have e12 : a.tmps.getD 12 undef = .pointer (some ⟨w.heap.size, 4, none⟩) := (ev 12 (by decide)).trans (hd 9 _ (by kernel_rfl) rfl).1
      have g0 := (hJ.cell (p := ⟨w.heap.size, 4, none⟩) (by dsimp only; omega)).trans c_t4
      have HK := Lib.hid hK
      clear hK ev hd
      go_simp
      exact HK.out _ _ (fun h => by cases h) hJ ⟨rfl, fun h => absurd h (by decide)⟩ (Below.refl _ _)
    case o11 =>
      intro u a w' ev hJ hd K hK
      have e13 : a.tmps.getD 13 undef = .slice ca lc cc := (ev 13 (by decide)).trans (hd 10 _ (by kernel_rfl) rfl).1
      have HK := Lib.hid hK
      have HC := Lib.hid (C4.out w' (below_via hJ HS.out (by omega)))
      have hzJ := hJ.size
      clear hK ev hd
      go_simp
      refine HC.out.mono ?_
      rintro e w'' ⟨v, rfl, ho, hb⟩
      exact HK.out _ _ (fun h => by cases h) (hJ.trans (hb.mono hzJ)) ⟨owns_base (HL4.out ▸ ho) hzJ, fun h => absurd h (by decide)⟩ hb
    case o12 =>
      intro u a w' ev hJ hd K hK
      have e1 : a.tmps.getD 1 undef = .pointer (some ⟨w.heap.size, 0, none⟩) := ev 1 (by decide)
      have HK := Lib.hid hK
      clear hK ev hd
      go_simp
      exact HK.out _ _ (fun h => by cases h) hJ ⟨rfl, fun h => absurd h (by decide)⟩ (Below.refl _ _)
  case fin =>
    intro u w2 hJ hG
    have h15 : u 15 = .pointer (some ⟨w.heap.size, 1, none⟩) := (hG 12 _ rfl).1
    have p1 : (FactR.row wz.heap.size 27 lw (ws.map (Value.int .u64))).holds (u 5) w2 := (hG 2 _ rfl).1
    have p2 : (FactR.row wz.heap.size 2 lk (ks.map (Value.int .i64))).holds (u 8) w2 := (hG 5 _ rfl).1
    have p3 : (FactR.row wz.heap.size 2 lv (vs.map (Value.int .i64))).holds (u 11) w2 := (hG 8 _ rfl).1
    have p4 : (FactR.row wz.heap.size 3 lc (cs.map (Value.int .i64))).holds (u 14) w2 := (hG 11 _ rfl).1
    have hne : ∀ p q, (u 8).ownBlock = some p → (u 11).ownBlock = some q → p ≠ q := (hG 8 _ rfl).2 rfl
    obtain ⟨a1, c1, h5, -⟩ := owns_news p1
    obtain ⟨a2, c2, h8, -⟩ := owns_news p2
    obtain ⟨a3, c3, h11, -⟩ := owns_news p3
    obtain ⟨a4, c4, h14, -⟩ := owns_news p4
    rw [h5] at p1
    rw [h8] at p2
    rw [h11] at p3
    rw [h14] at p4
    rw [h8, h11] at hne
    have HNE := Lib.hid hne
    clear hne
    have HP1 : Hid (w2.ownsRow wz.heap.size 27 1 (.slice a1 lw c1) lw (ws.map (Value.int .u64))) := Lib.hid p1
    have HP2 : Hid (w2.ownsRow wz.heap.size 2 1 (.slice a2 lk c2) lk (ks.map (Value.int .i64))) := Lib.hid p2
    have HP3 : Hid (w2.ownsRow wz.heap.size 2 1 (.slice a3 lv c3) lv (vs.map (Value.int .i64))) := Lib.hid p3
    have HP4 : Hid (w2.ownsRow wz.heap.size 3 1 (.slice a4 lc c4) lc (cs.map (Value.int .i64))) := Lib.hid p4
    have hz_w2 := hJ.size
    try simp only [World.size_alloc, World.size_setCell] at hz_w2
    replace c_t0 : w2.cell? ⟨w.heap.size, 0, none⟩ = some (.int .i64 seg) := (hJ.cell (p := ⟨w.heap.size, 0, none⟩) (by (first | (with_reducible assumption) | omega | (simp only [szW] <;> omega) | (simp <;> omega)))).trans (by (first | (with_reducible assumption) | ((try simp (disch := first | omega | (simp only [szW] <;> omega) | fail) only [ceW]) <;> first | (with_reducible assumption) | rfl)))
    replace f_t0 : w2.frozen? ⟨w.heap.size, 0, none⟩ = false := (hJ.frozen (p := ⟨w.heap.size, 0, none⟩) (by (first | (with_reducible assumption) | omega | (simp only [szW] <;> omega) | (simp <;> omega)))).trans (by (first | (with_reducible assumption) | ((try simp (disch := first | omega | (simp only [szW] <;> omega) | fail) only [ceW]) <;> first | (with_reducible assumption) | rfl)))
    replace c_t1 : w2.cell? ⟨w.heap.size, 1, none⟩ = some (.slice wa lw wc) := (hJ.cell (p := ⟨w.heap.size, 1, none⟩) (by (first | (with_reducible assumption) | omega | (simp only [szW] <;> omega) | (simp <;> omega)))).trans (by (first | (with_reducible assumption) | ((try simp (disch := first | omega | (simp only [szW] <;> omega) | fail) only [ceW]) <;> first | (with_reducible assumption) | rfl)))
    replace f_t1 : w2.frozen? ⟨w.heap.size, 1, none⟩ = false := (hJ.frozen (p := ⟨w.heap.size, 1, none⟩) (by (first | (with_reducible assumption) | omega | (simp only [szW] <;> omega) | (simp <;> omega)))).trans (by (first | (with_reducible assumption) | ((try simp (disch := first | omega | (simp only [szW] <;> omega) | fail) only [ceW]) <;> first | (with_reducible assumption) | rfl)))
    replace c_t2 : w2.cell? ⟨w.heap.size, 2, none⟩ = some (.slice ka lk kc) := (hJ.cell (p := ⟨w.heap.size, 2, none⟩) (by (first | (with_reducible assumption) | omega | (simp only [szW] <;> omega) | (simp <;> omega)))).trans (by (first | (with_reducible assumption) | ((try simp (disch := first | omega | (simp only [szW] <;> omega) | fail) only [ceW]) <;> first | (with_reducible assumption) | rfl)))
    replace f_t2 : w2.frozen? ⟨w.heap.size, 2, none⟩ = false := (hJ.frozen (p := ⟨w.heap.size, 2, none⟩) (by (first | (with_reducible assumption) | omega | (simp only [szW] <;> omega) | (simp <;> omega)))).trans (by (first | (with_reducible assumption) | ((try simp (disch := first | omega | (simp only [szW] <;> omega) | fail) only [ceW]) <;> first | (with_reducible assumption) | rfl)))
    replace c_t3 : w2.cell? ⟨w.heap.size, 3, none⟩ = some (.slice va lv vc) := (hJ.cell (p := ⟨w.heap.size, 3, none⟩) (by (first | (with_reducible assumption) | omega | (simp only [szW] <;> omega) | (simp <;> omega)))).trans (by (first | (with_reducible assumption) | ((try simp (disch := first | omega | (simp only [szW] <;> omega) | fail) only [ceW]) <;> first | (with_reducible assumption) | rfl)))
    replace f_t3 : w2.frozen? ⟨w.heap.size, 3, none⟩ = false := (hJ.frozen (p := ⟨w.heap.size, 3, none⟩) (by (first | (with_reducible assumption) | omega | (simp only [szW] <;> omega) | (simp <;> omega)))).trans (by (first | (with_reducible assumption) | ((try simp (disch := first | omega | (simp only [szW] <;> omega) | fail) only [ceW]) <;> first | (with_reducible assumption) | rfl)))
    replace c_t4 : w2.cell? ⟨w.heap.size, 4, none⟩ = some (.slice ca lc cc) := (hJ.cell (p := ⟨w.heap.size, 4, none⟩) (by (first | (with_reducible assumption) | omega | (simp only [szW] <;> omega) | (simp <;> omega)))).trans (by (first | (with_reducible assumption) | ((try simp (disch := first | omega | (simp only [szW] <;> omega) | fail) only [ceW]) <;> first | (with_reducible assumption) | rfl)))
    replace f_t4 : w2.frozen? ⟨w.heap.size, 4, none⟩ = false := (hJ.frozen (p := ⟨w.heap.size, 4, none⟩) (by (first | (with_reducible assumption) | omega | (simp only [szW] <;> omega) | (simp <;> omega)))).trans (by (first | (with_reducible assumption) | ((try simp (disch := first | omega | (simp only [szW] <;> omega) | fail) only [ceW]) <;> first | (with_reducible assumption) | rfl)))
    replace c_t5 : w2.cell? ⟨w.heap.size, 5, none⟩ = some (.int .u64 laid) := (hJ.cell (p := ⟨w.heap.size, 5, none⟩) (by (first | (with_reducible assumption) | omega | (simp only [szW] <;> omega) | (simp <;> omega)))).trans (by (first | (with_reducible assumption) | ((try simp (disch := first | omega | (simp only [szW] <;> omega) | fail) only [ceW]) <;> first | (with_reducible assumption) | rfl)))
    replace f_t5 : w2.frozen? ⟨w.heap.size, 5, none⟩ = false := (hJ.frozen (p := ⟨w.heap.size, 5, none⟩) (by (first | (with_reducible assumption) | omega | (simp only [szW] <;> omega) | (simp <;> omega)))).trans (by (first | (with_reducible assumption) | ((try simp (disch := first | omega | (simp only [szW] <;> omega) | fail) only [ceW]) <;> first | (with_reducible assumption) | rfl)))
    replace z_t : w.heap.size < w2.heap.size := by omega
    replace c_r0 : w2.cell? ⟨w.heap.size + 1, 0, none⟩ = some (.int .i64 0) := (hJ.cell (p := ⟨w.heap.size + 1, 0, none⟩) (by (first | (with_reducible assumption) | omega | (simp only [szW] <;> omega) | (simp <;> omega)))).trans (by (first | (with_reducible assumption) | ((try simp (disch := first | omega | (simp only [szW] <;> omega) | fail) only [ceW]) <;> first | (with_reducible assumption) | rfl)))
    replace f_r0 : w2.frozen? ⟨w.heap.size + 1, 0, none⟩ = false := (hJ.frozen (p := ⟨w.heap.size + 1, 0, none⟩) (by (first | (with_reducible assumption) | omega | (simp only [szW] <;> omega) | (simp <;> omega)))).trans (by (first | (with_reducible assumption) | ((try simp (disch := first | omega | (simp only [szW] <;> omega) | fail) only [ceW]) <;> first | (with_reducible assumption) | rfl)))
    replace c_r1 : w2.cell? ⟨w.heap.size + 1, 1, none⟩ = some (.slice none 0 0) := (hJ.cell (p := ⟨w.heap.size + 1, 1, none⟩) (by (first | (with_reducible assumption) | omega | (simp only [szW] <;> omega) | (simp <;> omega)))).trans (by (first | (with_reducible assumption) | ((try simp (disch := first | omega | (simp only [szW] <;> omega) | fail) only [ceW]) <;> first | (with_reducible assumption) | rfl)))
    replace f_r1 : w2.frozen? ⟨w.heap.size + 1, 1, none⟩ = false := (hJ.frozen (p := ⟨w.heap.size + 1, 1, none⟩) (by (first | (with_reducible assumption) | omega | (simp only [szW] <;> omega) | (simp <;> omega)))).trans (by (first | (with_reducible assumption) | ((try simp (disch := first | omega | (simp only [szW] <;> omega) | fail) only [ceW]) <;> first | (with_reducible assumption) | rfl)))
    replace c_r2 : w2.cell? ⟨w.heap.size + 1, 2, none⟩ = some (.slice none 0 0) := (hJ.cell (p := ⟨w.heap.size + 1, 2, none⟩) (by (first | (with_reducible assumption) | omega | (simp only [szW] <;> omega) | (simp <;> omega)))).trans (by (first | (with_reducible assumption) | ((try simp (disch := first | omega | (simp only [szW] <;> omega) | fail) only [ceW]) <;> first | (with_reducible assumption) | rfl)))
    replace f_r2 : w2.frozen? ⟨w.heap.size + 1, 2, none⟩ = false := (hJ.frozen (p := ⟨w.heap.size + 1, 2, none⟩) (by (first | (with_reducible assumption) | omega | (simp only [szW] <;> omega) | (simp <;> omega)))).trans (by (first | (with_reducible assumption) | ((try simp (disch := first | omega | (simp only [szW] <;> omega) | fail) only [ceW]) <;> first | (with_reducible assumption) | rfl)))
    replace c_r3 : w2.cell? ⟨w.heap.size + 1, 3, none⟩ = some (.slice none 0 0) := (hJ.cell (p := ⟨w.heap.size + 1, 3, none⟩) (by (first | (with_reducible assumption) | omega | (simp only [szW] <;> omega) | (simp <;> omega)))).trans (by (first | (with_reducible assumption) | ((try simp (disch := first | omega | (simp only [szW] <;> omega) | fail) only [ceW]) <;> first | (with_reducible assumption) | rfl)))
    replace f_r3 : w2.frozen? ⟨w.heap.size + 1, 3, none⟩ = false := (hJ.frozen (p := ⟨w.heap.size + 1, 3, none⟩) (by (first | (with_reducible assumption) | omega | (simp only [szW] <;> omega) | (simp <;> omega)))).trans (by (first | (with_reducible assumption) | ((try simp (disch := first | omega | (simp only [szW] <;> omega) | fail) only [ceW]) <;> first | (with_reducible assumption) | rfl)))
    replace c_r4 : w2.cell? ⟨w.heap.size + 1, 4, none⟩ = some (.slice none 0 0) := (hJ.cell (p := ⟨w.heap.size + 1, 4, none⟩) (by (first | (with_reducible assumption) | omega | (simp only [szW] <;> omega) | (simp <;> omega)))).trans (by (first | (with_reducible assumption) | ((try simp (disch := first | omega | (simp only [szW] <;> omega) | fail) only [ceW]) <;> first | (with_reducible assumption) | rfl)))
    replace f_r4 : w2.frozen? ⟨w.heap.size + 1, 4, none⟩ = false := (hJ.frozen (p := ⟨w.heap.size + 1, 4, none⟩) (by (first | (with_reducible assumption) | omega | (simp only [szW] <;> omega) | (simp <;> omega)))).trans (by (first | (with_reducible assumption) | ((try simp (disch := first | omega | (simp only [szW] <;> omega) | fail) only [ceW]) <;> first | (with_reducible assumption) | rfl)))
    replace c_r5 : w2.cell? ⟨w.heap.size + 1, 5, none⟩ = some (.int .u64 0) := (hJ.cell (p := ⟨w.heap.size + 1, 5, none⟩) (by (first | (with_reducible assumption) | omega | (simp only [szW] <;> omega) | (simp <;> omega)))).trans (by (first | (with_reducible assumption) | ((try simp (disch := first | omega | (simp only [szW] <;> omega) | fail) only [ceW]) <;> first | (with_reducible assumption) | rfl)))
    replace f_r5 : w2.frozen? ⟨w.heap.size + 1, 5, none⟩ = false := (hJ.frozen (p := ⟨w.heap.size + 1, 5, none⟩) (by (first | (with_reducible assumption) | omega | (simp only [szW] <;> omega) | (simp <;> omega)))).trans (by (first | (with_reducible assumption) | ((try simp (disch := first | omega | (simp only [szW] <;> omega) | fail) only [ceW]) <;> first | (with_reducible assumption) | rfl)))
    replace z_r : w.heap.size + 1 < w2.heap.size := by omega
    have hB2 : Below w.heap.size w w2 := below_via hJ HS.out (by omega)
    clear hG p1 p2 p3 p4 hJ
    simp only [mixFrame, mixL, dstsOf, List.take_succ_cons, List.take_zero, List.filterMap_cons, List.filterMap_nil, List.contains_cons, List.contains_nil, Nat.reduceBEq, Bool.or_false, Bool.false_or, Bool.or_true, Bool.true_or, if_true, if_false, Bool.false_eq_true, Nat.reduceAdd, Nat.zero_add, List.drop_succ_cons, List.drop_zero, h15, h5, h8, h11, h14]
    go_wp2
    have hb5 : Below w.heap.size w ((((w2.setCell ⟨w.heap.size, 1, none⟩ (.slice a1 lw c1)).setCell ⟨w.heap.size, 2, none⟩ (.slice a2 lk c2)).setCell ⟨w.heap.size, 3, none⟩ (.slice a3 lv c3)).setCell ⟨w.heap.size, 4, none⟩ (.slice a4 lc c4)) := (((hB2.setCell (by dsimp only; omega) _).setCell (by dsimp only; omega) _).setCell (by dsimp only; omega) _).setCell (by dsimp only; omega) _
    have k0 : ((((w2.setCell ⟨w.heap.size, 1, none⟩ (.slice a1 lw c1)).setCell ⟨w.heap.size, 2, none⟩ (.slice a2 lk c2)).setCell ⟨w.heap.size, 3, none⟩ (.slice a3 lv c3)).setCell ⟨w.heap.size, 4, none⟩ (.slice a4 lc c4)).cell? ⟨w.heap.size + 1, 0, none⟩ = some (.int .i64 0) := set_keep (by simp) (set_keep (by simp) (set_keep (by simp) (set_keep (by simp) c_r0)))
    have k1 : ((((w2.setCell ⟨w.heap.size, 1, none⟩ (.slice a1 lw c1)).setCell ⟨w.heap.size, 2, none⟩ (.slice a2 lk c2)).setCell ⟨w.heap.size, 3, none⟩ (.slice a3 lv c3)).setCell ⟨w.heap.size, 4, none⟩ (.slice a4 lc c4)).cell? ⟨w.heap.size + 1, 1, none⟩ = some (.slice none 0 0) := set_keep (by simp) (set_keep (by simp) (set_keep (by simp) (set_keep (by simp) c_r1)))
    have k2 : ((((w2.setCell ⟨w.heap.size, 1, none⟩ (.slice a1 lw c1)).setCell ⟨w.heap.size, 2, none⟩ (.slice a2 lk c2)).setCell ⟨w.heap.size, 3, none⟩ (.slice a3 lv c3)).setCell ⟨w.heap.size, 4, none⟩ (.slice a4 lc c4)).cell? ⟨w.heap.size + 1, 2, none⟩ = some (.slice none 0 0) := set_keep (by simp) (set_keep (by simp) (set_keep (by simp) (set_keep (by simp) c_r2)))
    have k3 : ((((w2.setCell ⟨w.heap.size, 1, none⟩ (.slice a1 lw c1)).setCell ⟨w.heap.size, 2, none⟩ (.slice a2 lk c2)).setCell ⟨w.heap.size, 3, none⟩ (.slice a3 lv c3)).setCell ⟨w.heap.size, 4, none⟩ (.slice a4 lc c4)).cell? ⟨w.heap.size + 1, 3, none⟩ = some (.slice none 0 0) := set_keep (by simp) (set_keep (by simp) (set_keep (by simp) (set_keep (by simp) c_r3)))
    have k4 : ((((w2.setCell ⟨w.heap.size, 1, none⟩ (.slice a1 lw c1)).setCell ⟨w.heap.size, 2, none⟩ (.slice a2 lk c2)).setCell ⟨w.heap.size, 3, none⟩ (.slice a3 lv c3)).setCell ⟨w.heap.size, 4, none⟩ (.slice a4 lc c4)).cell? ⟨w.heap.size + 1, 4, none⟩ = some (.slice none 0 0) := set_keep (by simp) (set_keep (by simp) (set_keep (by simp) (set_keep (by simp) c_r4)))
    have k5 : ((((w2.setCell ⟨w.heap.size, 1, none⟩ (.slice a1 lw c1)).setCell ⟨w.heap.size, 2, none⟩ (.slice a2 lk c2)).setCell ⟨w.heap.size, 3, none⟩ (.slice a3 lv c3)).setCell ⟨w.heap.size, 4, none⟩ (.slice a4 lc c4)).cell? ⟨w.heap.size + 1, 5, none⟩ = some (.int .u64 0) := set_keep (by simp) (set_keep (by simp) (set_keep (by simp) (set_keep (by simp) c_r5)))
    have HQ : Hid (∀ q, w.heap.size + 2 ≤ q → ((((((((((w2.setCell ⟨w.heap.size, 1, none⟩ (.slice a1 lw c1)).setCell ⟨w.heap.size, 2, none⟩ (.slice a2 lk c2)).setCell ⟨w.heap.size, 3, none⟩ (.slice a3 lv c3)).setCell ⟨w.heap.size, 4, none⟩ (.slice a4 lc c4)).setCell ⟨w.heap.size + 1, 0, none⟩ (.int .i64 seg)).setCell ⟨w.heap.size + 1, 1, none⟩ (.slice a1 lw c1)).setCell ⟨w.heap.size + 1, 2, none⟩ (.slice a2 lk c2)).setCell ⟨w.heap.size + 1, 3, none⟩ (.slice a3 lv c3)).setCell ⟨w.heap.size + 1, 4, none⟩ (.slice a4 lc c4)).setCell ⟨w.heap.size + 1, 5, none⟩ (.int .u64 laid)).heap[q]? = w2.heap[q]?) := Lib.hid fun q hq => by
      rw [heap_setCell_ne _ _ _ (by dsimp only; omega), heap_setCell_ne _ _ _ (by dsimp only; omega), heap_setCell_ne _ _ _ (by dsimp only; omega), heap_setCell_ne _ _ _ (by dsimp only; omega), heap_setCell_ne _ _ _ (by dsimp only; omega), heap_setCell_ne _ _ _ (by dsimp only; omega), heap_setCell_ne _ _ _ (by dsimp only; omega), heap_setCell_ne _ _ _ (by dsimp only; omega), heap_setCell_ne _ _ _ (by dsimp only; omega), heap_setCell_ne _ _ _ (by dsimp only; omega)]
    refine bodyPost_ret (results_c rfl rfl (run_loadVar_many _ Try.underlying29 rfl (by kernel_rfl) (six_set k0 k1 k2 k3 k4 k5))) rfl ⟨_, _, _, _, rfl, ?_, ?_, ?_, ?_, ?_, HNE.out⟩
    · rw [HL1.out]; exact owns_base (owns_heap HP1.out fun j hj => HQ.out j (by have := (HP1.out.lt j hj).1; omega)) (by omega)
    · rw [HL2.out]; exact owns_base (owns_heap HP2.out fun j hj => HQ.out j (by have := (HP2.out.lt j hj).1; omega)) (by omega)
    · rw [HL3.out]; exact owns_base (owns_heap HP3.out fun j hj => HQ.out j (by have := (HP3.out.lt j hj).1; omega)) (by omega)
    · rw [HL4.out]; exact owns_base (owns_heap HP4.out fun j hj => HQ.out j (by have := (HP4.out.lt j hj).1; omega)) (by omega)
    · exact (((((hb5.setCell (by dsimp only; omega) _).setCell (by dsimp only; omega) _).setCell (by dsimp only; omega) _).setCell (by dsimp only; omega) _).setCell (by dsimp only; omega) _).setCell (by dsimp only; omega) _
end

section
open Go.RowKit Go.Shelf
attribute [local go_sem] Oper.semAt_some

/-- but for four blocks all that was there stays -/
structure KeptA (g1 g2 g3 g4 : Nat) (w W : World) : Prop where
  os : W.os = w.os
  tape : W.tape = w.tape
  output : W.output = w.output
  size : w.heap.size ≤ W.heap.size
  block : ∀ q, q < w.heap.size → q ≠ g1 → q ≠ g2 → q ≠ g3 → q ≠ g4 → W.heap[q]? = w.heap[q]?
theorem KeptA.below {g1 g2 g3 g4 : Nat} {w W : World} (h : Below w.heap.size w W) : KeptA g1 g2 g3 g4 w W := ⟨h.os, h.tape, h.output, h.size, fun q hq _ _ _ _ => h.block q hq⟩
theorem KeptA.step {g1 g2 g3 g4 : Nat} {w W W' : World} (h : KeptA g1 g2 g3 g4 w W) (h0 : W'.heap.size = W.heap.size) (h1 : W'.os = W.os) (h2 : W'.tape = W.tape) (h3 : W'.output = W.output) (hb : ∀ q, q < w.heap.size → q ≠ g1 → q ≠ g2 → q ≠ g3 → q ≠ g4 → W'.heap[q]? = W.heap[q]?) : KeptA g1 g2 g3 g4 w W' :=
  ⟨h1.trans h.os, h2.trans h.tape, h3.trans h.output, by rw [h0]; exact h.size, fun q hq a b c d => (hb q hq a b c d).trans (h.block q hq a b c d)⟩
theorem owns_drew {w : World} {B : Nat} {e : TypeId} {s : Nat} {v : Value} {n : Nat} {xs : List Value} (h : w.ownsRow B e s v n xs) : w.drew.ownsRow B e s v n xs := owns_heap h fun _ _ => rfl
theorem own_len {k : IntKind} {w : World} {B : Nat} {e : TypeId} {v : Value} {n : Nat} {xs : List Int} (h : w.ownsRow B e 1 v n (xs.map (Value.int k))) : xs.length = n := by have := h.1; simpa using this
theorem frozen_of_block {w w' : World} {b : Nat} (h : w'.heap[b]? = w.heap[b]?) (i : Nat) : w'.frozen? ⟨b, i, none⟩ = w.frozen? ⟨b, i, none⟩ := by simp only [World.frozen?, h]

/-- a gapped array in a box, on rows of its own -/
structure ArrOn (B : Nat) (W : World) (b g1 g2 g3 g4 k1 k2 k3 k4 lw n lc : Nat) (seg laid : Int) (ws ks vs cs : List Int) : Prop where
  c0 : W.cell? ⟨b, 0, none⟩ = some (.int .i64 seg)
  c1 : W.cell? ⟨b, 1, none⟩ = some (.slice (some ⟨g1, 0, none⟩) lw k1)
  c2 : W.cell? ⟨b, 2, none⟩ = some (.slice (some ⟨g2, 0, none⟩) n k2)
  c3 : W.cell? ⟨b, 3, none⟩ = some (.slice (some ⟨g3, 0, none⟩) n k3)
  c4 : W.cell? ⟨b, 4, none⟩ = some (.slice (some ⟨g4, 0, none⟩) lc k4)
  c5 : W.cell? ⟨b, 5, none⟩ = some (.int .u64 laid)
  f5 : W.frozen? ⟨b, 5, none⟩ = false
  o1 : W.ownsRow B 27 1 (.slice (some ⟨g1, 0, none⟩) lw k1) lw ((ws).map (Value.int .u64))
  o2 : W.ownsRow B 2 1 (.slice (some ⟨g2, 0, none⟩) n k2) n ((ks).map (Value.int .i64))
  o3 : W.ownsRow B 2 1 (.slice (some ⟨g3, 0, none⟩) n k3) n ((vs).map (Value.int .i64))
  o4 : W.ownsRow B 3 1 (.slice (some ⟨g4, 0, none⟩) lc k4) lc ((cs).map (Value.int .i64))

set_option maxRecDepth 100000 in
set_option maxHeartbeats 2000000 in
theorem slTake_set (w : World) (B b g1 g2 g3 g4 k1 k2 k3 k4 lw n lc i qi r s : Nat) (seg x kx vx nx : Int) (laid : Int) (ws ks vs cs : List Int)
    (c0 : w.cell? ⟨b, 0, none⟩ = some (.int .i64 seg)) (c1 : w.cell? ⟨b, 1, none⟩ = some (.slice (some ⟨g1, 0, none⟩) lw k1)) (c2 : w.cell? ⟨b, 2, none⟩ = some (.slice (some ⟨g2, 0, none⟩) n k2)) (c3 : w.cell? ⟨b, 3, none⟩ = some (.slice (some ⟨g3, 0, none⟩) n k3)) (c4 : w.cell? ⟨b, 4, none⟩ = some (.slice (some ⟨g4, 0, none⟩) lc k4)) (c5 : w.cell? ⟨b, 5, none⟩ = some (.int .u64 laid)) (f5 : w.frozen? ⟨b, 5, none⟩ = false)
    (O1 : Hid (w.ownsRow B 27 1 (.slice (some ⟨g1, 0, none⟩) lw k1) lw ((ws).map (Value.int .u64)))) (O2 : Hid (w.ownsRow B 2 1 (.slice (some ⟨g2, 0, none⟩) n k2) n ((ks).map (Value.int .i64)))) (O3 : Hid (w.ownsRow B 2 1 (.slice (some ⟨g3, 0, none⟩) n k3) n ((vs).map (Value.int .i64)))) (O4 : Hid (w.ownsRow B 3 1 (.slice (some ⟨g4, 0, none⟩) lc k4) lc ((cs).map (Value.int .i64))))
    (d1 : w.cell? ⟨g1, qi, none⟩ = some (.int .u64 x)) (d2 : w.cell? ⟨g2, i, none⟩ = some (.int .i64 kx)) (d3 : w.cell? ⟨g3, i, none⟩ = some (.int .i64 vx)) (d4 : w.cell? ⟨g4, s, none⟩ = some (.int .i64 nx))
    (f1 : w.frozen? ⟨g1, qi, none⟩ = false) (f2 : w.frozen? ⟨g2, i, none⟩ = false) (f3 : w.frozen? ⟨g3, i, none⟩ = false) (f4 : w.frozen? ⟨g4, s, none⟩ = false)
    (hin : i < n) (hn : n ≤ 65536) (hqI : (i : Int) / 64 = qi) (hrI : (i : Int) % 64 = r) (hrT : (i : Int).tmod 64 = r) (hr : r < 64) (hqi : qi < lw) (hs : s < lc) (hsI : (i : Int) / seg = s) (hsg : (seg == 0) = false) (hsg2 : ¬ seg = 0) (hsg3 : 4 ≤ seg) (hlc : lc ≤ 65536) (hlw : lw ≤ 65536)
    (n1 : g1 ≠ b) (n2 : g2 ≠ b) (n3 : g3 ≠ b) (n4 : g4 ≠ b) (n12 : g1 ≠ g2) (n13 : g1 ≠ g3) (n14 : g1 ≠ g4) (n23 : g2 ≠ g3) (n24 : g2 ≠ g4) (n34 : g3 ≠ g4) (hnx : 0 ≤ nx) (hnx2 : nx ≤ 65536)
    (IS : Hid (∀ W, W.cell? ⟨b, 1, none⟩ = some (.slice (some ⟨g1, 0, none⟩) lw k1) → W.cell? ⟨g1, qi, none⟩ = some (.int .u64 x) → Calls Try.prog 88 #[.pointer (some ⟨b, 0, none⟩), .int .i64 i] W fun e w' => e = .returned (.bool true) ∧ W = w')) (ne : True) :
    Calls Try.prog 67 #[.pointer (some ⟨b, 0, none⟩), .int .i64 i] w fun e W => e = .returned (.agg #[.int .i64 kx, .int .i64 vx]) ∧ ArrOn B W b g1 g2 g3 g4 k1 k2 k3 k4 lw n lc seg laid (ws.set qi (bits BinOp.andNot IntKind.u64 x (IntKind.u64.wrap (2 ^ r)))) (ks.set i 0) (vs.set i 0) (cs.set s (nx - 1)) ∧ KeptA g1 g2 g3 g4 w W := by
  have y0 := World.block_lt_of_cell? _ _ c0
  have y1 := World.block_lt_of_cell? _ _ d1
  have y2 := World.block_lt_of_cell? _ _ d2
  have y3 := World.block_lt_of_cell? _ _ d3
  have y4 := World.block_lt_of_cell? _ _ d4
  dsimp only at y0 y1 y2 y3 y4
  go_enter Try.func67, Try.ntmps67
  go_wp2
  have hba : Below w.heap.size w (w.alloc (.cells #[.int .i64 0, .int .i64 0] 52)) := (Below.refl _ _).alloc (Nat.le_refl _) _
  have hz1 : (w.alloc (.cells #[.int .i64 0, .int .i64 0] 52)).heap.size = w.heap.size + 1 := by simp
  have r0 : (w.alloc (.cells #[.int .i64 0, .int .i64 0] 52)).cell? ⟨w.heap.size, 0, none⟩ = some (.int .i64 0) := by ((try simp (disch := first | omega | (simp only [szW] <;> omega) | fail) only [ceW]) <;> rfl)
  have r1 : (w.alloc (.cells #[.int .i64 0, .int .i64 0] 52)).cell? ⟨w.heap.size, 1, none⟩ = some (.int .i64 0) := by ((try simp (disch := first | omega | (simp only [szW] <;> omega) | fail) only [ceW]) <;> rfl)
  have p0 : (w.alloc (.cells #[.int .i64 0, .int .i64 0] 52)).frozen? ⟨w.heap.size, 0, none⟩ = false := by ((try simp (disch := first | omega | (simp only [szW] <;> omega) | fail) only [ceW]) <;> rfl)
  have p1 : (w.alloc (.cells #[.int .i64 0, .int .i64 0] 52)).frozen? ⟨w.heap.size, 1, none⟩ = false := by ((try simp (disch := first | omega | (simp only [szW] <;> omega) | fail) only [ceW]) <;> rfl)
  generalize (w.alloc (.cells #[.int .i64 0, .int .i64 0] 52)) = w1 at *
  replace c0 : w1.cell? ⟨b, 0, none⟩ = some (.int .i64 seg) := (hba.cell (p := ⟨b, 0, none⟩) (by dsimp only; omega)).trans c0
  replace c1 : w1.cell? ⟨b, 1, none⟩ = some (.slice (some ⟨g1, 0, none⟩) lw k1) := (hba.cell (p := ⟨b, 1, none⟩) (by dsimp only; omega)).trans c1
  replace c2 : w1.cell? ⟨b, 2, none⟩ = some (.slice (some ⟨g2, 0, none⟩) n k2) := (hba.cell (p := ⟨b, 2, none⟩) (by dsimp only; omega)).trans c2
  replace c3 : w1.cell? ⟨b, 3, none⟩ = some (.slice (some ⟨g3, 0, none⟩) n k3) := (hba.cell (p := ⟨b, 3, none⟩) (by dsimp only; omega)).trans c3
  replace c4 : w1.cell? ⟨b, 4, none⟩ = some (.slice (some ⟨g4, 0, none⟩) lc k4) := (hba.cell (p := ⟨b, 4, none⟩) (by dsimp only; omega)).trans c4
  replace c5 : w1.cell? ⟨b, 5, none⟩ = some (.int .u64 laid) := (hba.cell (p := ⟨b, 5, none⟩) (by dsimp only; omega)).trans c5
  replace d1 : w1.cell? ⟨g1, qi, none⟩ = some (.int .u64 x) := (hba.cell (p := ⟨g1, qi, none⟩) (by dsimp only; omega)).trans d1
  replace d2 : w1.cell? ⟨g2, i, none⟩ = some (.int .i64 kx) := (hba.cell (p := ⟨g2, i, none⟩) (by dsimp only; omega)).trans d2
  replace d3 : w1.cell? ⟨g3, i, none⟩ = some (.int .i64 vx) := (hba.cell (p := ⟨g3, i, none⟩) (by dsimp only; omega)).trans d3
  replace d4 : w1.cell? ⟨g4, s, none⟩ = some (.int .i64 nx) := (hba.cell (p := ⟨g4, s, none⟩) (by dsimp only; omega)).trans d4
  replace f1 : w1.frozen? ⟨g1, qi, none⟩ = false := (hba.frozen (p := ⟨g1, qi, none⟩) (by dsimp only; omega)).trans f1
  replace f2 : w1.frozen? ⟨g2, i, none⟩ = false := (hba.frozen (p := ⟨g2, i, none⟩) (by dsimp only; omega)).trans f2
  replace f3 : w1.frozen? ⟨g3, i, none⟩ = false := (hba.frozen (p := ⟨g3, i, none⟩) (by dsimp only; omega)).trans f3
  replace f4 : w1.frozen? ⟨g4, s, none⟩ = false := (hba.frozen (p := ⟨g4, s, none⟩) (by dsimp only; omega)).trans f4
  replace f5 : w1.frozen? ⟨b, 5, none⟩ = false := (hba.frozen (p := ⟨b, 5, none⟩) (by dsimp only; omega)).trans f5
  replace O1 := Lib.hid (owns_below O1.out hba)
  replace O2 := Lib.hid (owns_below O2.out hba)
  replace O3 := Lib.hid (owns_below O3.out hba)
  replace O4 := Lib.hid (owns_below O4.out hba)
  have K1 : Hid (KeptA g1 g2 g3 g4 w w1) := Lib.hid (KeptA.below hba)
  clear hba
  have hiI : (i : Int) < n := by omega
  go_still_tail 17, (by kernel_rfl)
  go_wp2_with fail
  have hk2 : ∀ q, q ≠ w.heap.size → (((w1.setCell ⟨w.heap.size, 0, none⟩ (.int .i64 kx)).setCell ⟨w.heap.size, 1, none⟩ (.int .i64 vx)).drew).heap[q]? = w1.heap[q]? := fun q hq => (heap_setCell_ne _ _ _ hq).trans (heap_setCell_ne _ _ _ hq)
  have hf2 : ∀ a : Addr, (((w1.setCell ⟨w.heap.size, 0, none⟩ (.int .i64 kx)).setCell ⟨w.heap.size, 1, none⟩ (.int .i64 vx)).drew).frozen? a = w1.frozen? a := fun a => by rw [World.frozen?_drew, World.frozen?_setCell, World.frozen?_setCell]
  replace r0 : (((w1.setCell ⟨w.heap.size, 0, none⟩ (.int .i64 kx)).setCell ⟨w.heap.size, 1, none⟩ (.int .i64 vx)).drew).cell? ⟨w.heap.size, 0, none⟩ = some (.int .i64 kx) := (set_keep (by simp) (World.cell?_setCell_same _ _ _ r0))
  replace r1 : (((w1.setCell ⟨w.heap.size, 0, none⟩ (.int .i64 kx)).setCell ⟨w.heap.size, 1, none⟩ (.int .i64 vx)).drew).cell? ⟨w.heap.size, 1, none⟩ = some (.int .i64 vx) := (World.cell?_setCell_same _ _ _ (set_keep (by simp) r1))
  have K2 : Hid (KeptA g1 g2 g3 g4 w (((w1.setCell ⟨w.heap.size, 0, none⟩ (.int .i64 kx)).setCell ⟨w.heap.size, 1, none⟩ (.int .i64 vx)).drew)) := Lib.hid (K1.out.step (by simp) rfl rfl rfl fun q hq _ _ _ _ => hk2 q (by omega))
  have hz2 : (((w1.setCell ⟨w.heap.size, 0, none⟩ (.int .i64 kx)).setCell ⟨w.heap.size, 1, none⟩ (.int .i64 vx)).drew).heap.size = w1.heap.size := by simp
  generalize (((w1.setCell ⟨w.heap.size, 0, none⟩ (.int .i64 kx)).setCell ⟨w.heap.size, 1, none⟩ (.int .i64 vx)).drew) = w2 at *
  replace c0 : w2.cell? ⟨b, 0, none⟩ = some (.int .i64 seg) := (World.cell?_of_block (a := ⟨b, 0, none⟩) (hk2 b (by omega))).trans c0
  replace c1 : w2.cell? ⟨b, 1, none⟩ = some (.slice (some ⟨g1, 0, none⟩) lw k1) := (World.cell?_of_block (a := ⟨b, 1, none⟩) (hk2 b (by omega))).trans c1
  replace c2 : w2.cell? ⟨b, 2, none⟩ = some (.slice (some ⟨g2, 0, none⟩) n k2) := (World.cell?_of_block (a := ⟨b, 2, none⟩) (hk2 b (by omega))).trans c2
  replace c3 : w2.cell? ⟨b, 3, none⟩ = some (.slice (some ⟨g3, 0, none⟩) n k3) := (World.cell?_of_block (a := ⟨b, 3, none⟩) (hk2 b (by omega))).trans c3
  replace c4 : w2.cell? ⟨b, 4, none⟩ = some (.slice (some ⟨g4, 0, none⟩) lc k4) := (World.cell?_of_block (a := ⟨b, 4, none⟩) (hk2 b (by omega))).trans c4
  replace c5 : w2.cell? ⟨b, 5, none⟩ = some (.int .u64 laid) := (World.cell?_of_block (a := ⟨b, 5, none⟩) (hk2 b (by omega))).trans c5
  replace d1 : w2.cell? ⟨g1, qi, none⟩ = some (.int .u64 x) := (World.cell?_of_block (a := ⟨g1, qi, none⟩) (hk2 g1 (by omega))).trans d1
  replace d2 : w2.cell? ⟨g2, i, none⟩ = some (.int .i64 kx) := (World.cell?_of_block (a := ⟨g2, i, none⟩) (hk2 g2 (by omega))).trans d2
  replace d3 : w2.cell? ⟨g3, i, none⟩ = some (.int .i64 vx) := (World.cell?_of_block (a := ⟨g3, i, none⟩) (hk2 g3 (by omega))).trans d3
  replace d4 : w2.cell? ⟨g4, s, none⟩ = some (.int .i64 nx) := (World.cell?_of_block (a := ⟨g4, s, none⟩) (hk2 g4 (by omega))).trans d4
  replace f1 : w2.frozen? ⟨g1, qi, none⟩ = false := (hf2 _).trans f1
  replace f2 : w2.frozen? ⟨g2, i, none⟩ = false := (hf2 _).trans f2
  replace f3 : w2.frozen? ⟨g3, i, none⟩ = false := (hf2 _).trans f3
  replace f4 : w2.frozen? ⟨g4, s, none⟩ = false := (hf2 _).trans f4
  replace f5 : w2.frozen? ⟨b, 5, none⟩ = false := (hf2 _).trans f5
  replace p0 := (hf2 _).trans p0
  replace p1 := (hf2 _).trans p1
  replace O1 := Lib.hid (owns_heap (W' := w2) O1.out fun j hj => by cases hj; exact hk2 g1 (by omega))
  replace O2 := Lib.hid (owns_heap (W' := w2) O2.out fun j hj => by cases hj; exact hk2 g2 (by omega))
  replace O3 := Lib.hid (owns_heap (W' := w2) O3.out fun j hj => by cases hj; exact hk2 g3 (by omega))
  replace O4 := Lib.hid (owns_heap (W' := w2) O4.out fun j hj => by cases hj; exact hk2 g4 (by omega))
  clear hk2 hf2 K1
  refine (IS.out _ c1 d1).mono ?_
  rintro e w' ⟨rfl, rfl⟩
  have hqI2 : (qi : Int) < lw := by omega
  have hsI2 : (s : Int) < lc := by omega
  have hws : IntKind.i64.wrap (s : Int) = (s : Int) := IntWalk.i64_in _ (by omega)
  have hwq : IntKind.i64.wrap (qi : Int) = (qi : Int) := IntWalk.i64_in _ (by omega)
  have hwr : IntKind.i64.wrap (r : Int) = (r : Int) := IntWalk.i64_in _ (by omega)
  have hwn : IntKind.i64.wrap (nx - 1) = nx - 1 := IntWalk.i64_in _ (by omega)
  go_wp2
  go_still_tail 15, (by kernel_rfl)
  go_wp2
  have hk_w3 : ∀ q, q ≠ g4 → ((w2.setCell ⟨g4, s, none⟩ (.int .i64 (nx - 1))).drew).heap[q]? = w2.heap[q]? := fun q hq => heap_setCell_ne _ _ _ hq
  have hf_w3 : ∀ a : Addr, ((w2.setCell ⟨g4, s, none⟩ (.int .i64 (nx - 1))).drew).frozen? a = w2.frozen? a := fun a => by rw [World.frozen?_drew, World.frozen?_setCell]
  have K3 : Hid (KeptA g1 g2 g3 g4 w ((w2.setCell ⟨g4, s, none⟩ (.int .i64 (nx - 1))).drew)) := Lib.hid (K2.out.step (by simp) rfl rfl rfl fun q hq h1 h2 h3 h4 => hk_w3 q (by omega))
  have hz_w3 : ((w2.setCell ⟨g4, s, none⟩ (.int .i64 (nx - 1))).drew).heap.size = w2.heap.size := by simp
  have nO4 : Hid (((w2.setCell ⟨g4, s, none⟩ (.int .i64 (nx - 1))).drew).ownsRow B 3 1 (.slice (some ⟨g4, 0, none⟩) lc k4) lc ((cs.set s (nx - 1)).map (Value.int .i64))) := Lib.hid (owns_drew (own_set O4.out s (nx - 1)))
  generalize ((w2.setCell ⟨g4, s, none⟩ (.int .i64 (nx - 1))).drew) = w3 at *
  clear d4
  replace c0 : w3.cell? ⟨b, 0, none⟩ = some (.int .i64 seg) := (World.cell?_of_block (a := ⟨b, 0, none⟩) (hk_w3 b (by omega))).trans c0
  replace c1 : w3.cell? ⟨b, 1, none⟩ = some (.slice (some ⟨g1, 0, none⟩) lw k1) := (World.cell?_of_block (a := ⟨b, 1, none⟩) (hk_w3 b (by omega))).trans c1
  replace c2 : w3.cell? ⟨b, 2, none⟩ = some (.slice (some ⟨g2, 0, none⟩) n k2) := (World.cell?_of_block (a := ⟨b, 2, none⟩) (hk_w3 b (by omega))).trans c2
  replace c3 : w3.cell? ⟨b, 3, none⟩ = some (.slice (some ⟨g3, 0, none⟩) n k3) := (World.cell?_of_block (a := ⟨b, 3, none⟩) (hk_w3 b (by omega))).trans c3
  replace c4 : w3.cell? ⟨b, 4, none⟩ = some (.slice (some ⟨g4, 0, none⟩) lc k4) := (World.cell?_of_block (a := ⟨b, 4, none⟩) (hk_w3 b (by omega))).trans c4
  replace c5 : w3.cell? ⟨b, 5, none⟩ = some (.int .u64 laid) := (World.cell?_of_block (a := ⟨b, 5, none⟩) (hk_w3 b (by omega))).trans c5
  replace d1 : w3.cell? ⟨g1, qi, none⟩ = some (.int .u64 x) := (World.cell?_of_block (a := ⟨g1, qi, none⟩) (hk_w3 g1 (by omega))).trans d1
  replace d2 : w3.cell? ⟨g2, i, none⟩ = some (.int .i64 kx) := (World.cell?_of_block (a := ⟨g2, i, none⟩) (hk_w3 g2 (by omega))).trans d2
  replace d3 : w3.cell? ⟨g3, i, none⟩ = some (.int .i64 vx) := (World.cell?_of_block (a := ⟨g3, i, none⟩) (hk_w3 g3 (by omega))).trans d3
  replace f1 : w3.frozen? ⟨g1, qi, none⟩ = false := (hf_w3 _).trans f1
  replace f2 : w3.frozen? ⟨g2, i, none⟩ = false := (hf_w3 _).trans f2
  replace f3 : w3.frozen? ⟨g3, i, none⟩ = false := (hf_w3 _).trans f3
  replace f4 : w3.frozen? ⟨g4, s, none⟩ = false := (hf_w3 _).trans f4
  replace f5 : w3.frozen? ⟨b, 5, none⟩ = false := (hf_w3 _).trans f5
  replace r0 := (World.cell?_of_block (a := ⟨w.heap.size, 0, none⟩) (hk_w3 w.heap.size (by omega))).trans r0
  replace p0 := (hf_w3 _).trans p0
  replace r1 := (World.cell?_of_block (a := ⟨w.heap.size, 1, none⟩) (hk_w3 w.heap.size (by omega))).trans r1
  replace p1 := (hf_w3 _).trans p1
  replace O1 := Lib.hid (owns_heap (W' := w3) O1.out fun j hj => by cases hj; exact hk_w3 g1 (by omega))
  replace O2 := Lib.hid (owns_heap (W' := w3) O2.out fun j hj => by cases hj; exact hk_w3 g2 (by omega))
  replace O3 := Lib.hid (owns_heap (W' := w3) O3.out fun j hj => by cases hj; exact hk_w3 g3 (by omega))
  replace O4 := nO4
  clear nO4 hk_w3 hf_w3 K2
  go_still_tail 13, (by kernel_rfl)
  go_wp2
  have hk_w4 : ∀ q, q ≠ g1 → ((w3.setCell ⟨g1, qi, none⟩ (.int .u64 (bits BinOp.andNot IntKind.u64 x (IntKind.u64.wrap (2 ^ r))))).drew).heap[q]? = w3.heap[q]? := fun q hq => heap_setCell_ne _ _ _ hq
  have hf_w4 : ∀ a : Addr, ((w3.setCell ⟨g1, qi, none⟩ (.int .u64 (bits BinOp.andNot IntKind.u64 x (IntKind.u64.wrap (2 ^ r))))).drew).frozen? a = w3.frozen? a := fun a => by rw [World.frozen?_drew, World.frozen?_setCell]
  have K4 : Hid (KeptA g1 g2 g3 g4 w ((w3.setCell ⟨g1, qi, none⟩ (.int .u64 (bits BinOp.andNot IntKind.u64 x (IntKind.u64.wrap (2 ^ r))))).drew)) := Lib.hid (K3.out.step (by simp) rfl rfl rfl fun q hq h1 h2 h3 h4 => hk_w4 q (by omega))
  have hz_w4 : ((w3.setCell ⟨g1, qi, none⟩ (.int .u64 (bits BinOp.andNot IntKind.u64 x (IntKind.u64.wrap (2 ^ r))))).drew).heap.size = w3.heap.size := by simp
  have nO1 : Hid (((w3.setCell ⟨g1, qi, none⟩ (.int .u64 (bits BinOp.andNot IntKind.u64 x (IntKind.u64.wrap (2 ^ r))))).drew).ownsRow B 27 1 (.slice (some ⟨g1, 0, none⟩) lw k1) lw ((ws.set qi (bits BinOp.andNot IntKind.u64 x (IntKind.u64.wrap (2 ^ r)))).map (Value.int .u64))) := Lib.hid (owns_drew (own_set O1.out qi (bits BinOp.andNot IntKind.u64 x (IntKind.u64.wrap (2 ^ r)))))
  generalize ((w3.setCell ⟨g1, qi, none⟩ (.int .u64 (bits BinOp.andNot IntKind.u64 x (IntKind.u64.wrap (2 ^ r))))).drew) = w4 at *
  clear d1
  replace c0 : w4.cell? ⟨b, 0, none⟩ = some (.int .i64 seg) := (World.cell?_of_block (a := ⟨b, 0, none⟩) (hk_w4 b (by omega))).trans c0
  replace c1 : w4.cell? ⟨b, 1, none⟩ = some (.slice (some ⟨g1, 0, none⟩) lw k1) := (World.cell?_of_block (a := ⟨b, 1, none⟩) (hk_w4 b (by omega))).trans c1
  replace c2 : w4.cell? ⟨b, 2, none⟩ = some (.slice (some ⟨g2, 0, none⟩) n k2) := (World.cell?_of_block (a := ⟨b, 2, none⟩) (hk_w4 b (by omega))).trans c2
  replace c3 : w4.cell? ⟨b, 3, none⟩ = some (.slice (some ⟨g3, 0, none⟩) n k3) := (World.cell?_of_block (a := ⟨b, 3, none⟩) (hk_w4 b (by omega))).trans c3
  replace c4 : w4.cell? ⟨b, 4, none⟩ = some (.slice (some ⟨g4, 0, none⟩) lc k4) := (World.cell?_of_block (a := ⟨b, 4, none⟩) (hk_w4 b (by omega))).trans c4
  replace c5 : w4.cell? ⟨b, 5, none⟩ = some (.int .u64 laid) := (World.cell?_of_block (a := ⟨b, 5, none⟩) (hk_w4 b (by omega))).trans c5
  replace d2 : w4.cell? ⟨g2, i, none⟩ = some (.int .i64 kx) := (World.cell?_of_block (a := ⟨g2, i, none⟩) (hk_w4 g2 (by omega))).trans d2
  replace d3 : w4.cell? ⟨g3, i, none⟩ = some (.int .i64 vx) := (World.cell?_of_block (a := ⟨g3, i, none⟩) (hk_w4 g3 (by omega))).trans d3
  replace f1 : w4.frozen? ⟨g1, qi, none⟩ = false := (hf_w4 _).trans f1
  replace f2 : w4.frozen? ⟨g2, i, none⟩ = false := (hf_w4 _).trans f2
  replace f3 : w4.frozen? ⟨g3, i, none⟩ = false := (hf_w4 _).trans f3
  replace f4 : w4.frozen? ⟨g4, s, none⟩ = false := (hf_w4 _).trans f4
  replace f5 : w4.frozen? ⟨b, 5, none⟩ = false := (hf_w4 _).trans f5
  replace r0 := (World.cell?_of_block (a := ⟨w.heap.size, 0, none⟩) (hk_w4 w.heap.size (by omega))).trans r0
  replace p0 := (hf_w4 _).trans p0
  replace r1 := (World.cell?_of_block (a := ⟨w.heap.size, 1, none⟩) (hk_w4 w.heap.size (by omega))).trans r1
  replace p1 := (hf_w4 _).trans p1
  replace O2 := Lib.hid (owns_heap (W' := w4) O2.out fun j hj => by cases hj; exact hk_w4 g2 (by omega))
  replace O3 := Lib.hid (owns_heap (W' := w4) O3.out fun j hj => by cases hj; exact hk_w4 g3 (by omega))
  replace O4 := Lib.hid (owns_heap (W' := w4) O4.out fun j hj => by cases hj; exact hk_w4 g4 (by omega))
  replace O1 := nO1
  clear nO1 hk_w4 hf_w4 K3
  obtain ⟨OWo, hOo⟩ : ∃ P : World → Prop, P = fun W => W.ownsRow B 2 1 (.slice (some ⟨g2, 0, none⟩) n k2) n ((ks).map (Value.int .i64)) := ⟨_, rfl⟩
  obtain ⟨OWn, hOn⟩ : ∃ P : World → Prop, P = fun W => W.ownsRow B 2 1 (.slice (some ⟨g2, 0, none⟩) n k2) n ((ks.set i 0).map (Value.int .i64)) := ⟨_, rfl⟩
  have JIN : Hid (JB g2 w4.drew OWo OWn w4.drew) := Lib.hid ⟨fun _ _ => rfl, rfl, ⟨rfl, rfl, rfl⟩, .inl (by rw [hOo]; exact owns_drew O2.out)⟩
  have hkl : ks.length = n := own_len O2.out
  have JST : Hid (∀ w', JB g2 w4.drew OWo OWn w' → (∃ y, w'.cell? ⟨g2, i, none⟩ = some (.int .i64 y)) ∧ w'.frozen? ⟨g2, i, none⟩ = false ∧ JB g2 w4.drew OWo OWn (w'.setCell ⟨g2, i, none⟩ (.int .i64 0)) ∧ OWn (w'.setCell ⟨g2, i, none⟩ (.int .i64 0))) := Lib.hid (by
    rintro w' ⟨j1, j2, j4, j3⟩
    have key : (∃ y, w'.cell? ⟨g2, i, none⟩ = some (.int .i64 y)) ∧ w'.frozen? ⟨g2, i, none⟩ = false ∧ OWn (w'.setCell ⟨g2, i, none⟩ (.int .i64 0)) := by
      rcases j3 with j3 | j3
      · rw [hOo] at j3
        obtain ⟨y0, y1⟩ := own_cell j3 (j := i) (by omega)
        have y2 := own_set j3 i 0
        rw [hOn]
        exact ⟨⟨_, y0⟩, y1, y2⟩
      · rw [hOn] at j3
        obtain ⟨y0, y1⟩ := own_cell j3 (j := i) (by rw [List.length_set]; omega)
        have y2 := own_set j3 i 0
        rw [List.set_set] at y2
        rw [hOn]
        exact ⟨⟨_, y0⟩, y1, y2⟩
    exact ⟨key.1, key.2.1, ⟨fun q hq => (heap_setCell_ne _ _ _ hq).trans (j1 q hq), by rw [World.size_setCell]; exact j2, j4, .inr key.2.2⟩, key.2.2⟩)
  have HON := Lib.hid hOn
  clear hOo hOn d2 f2
  refine wp_region_late 14 (by kernel_rfl) (N := 70) rfl (by kernel_rfl) (by kernel_rfl) (by decide) (fun w' => JB g2 w4.drew OWo OWn w') (fun W W' => OWn W → OWn W') (factRAt [.is (.pointer (some ⟨b, 0, none⟩)), .is (.pointer (some ⟨b, 0, none⟩)), .is (.pointer (some ⟨b, 0, none⟩)), .is (.pointer (some ⟨b, 2, none⟩)), .is (.slice (some ⟨g2, 0, none⟩) n k2), .is (.int .i64 i), .is (.pointer (some ⟨b, 0, none⟩)), .is (.pointer (some ⟨b, 0, none⟩)), .is (.pointer (some ⟨b, 0, none⟩)), .is (.pointer (some ⟨b, 3, none⟩)), .is (.slice (some ⟨g3, 0, none⟩) n k3), .is (.int .i64 i), .is (.pointer (some ⟨g2, i, none⟩)), .now OWn (fun _ _ h k => h k)]) (factRAt_stays _) JIN.out ?steps ?fin
  case steps =>
    refine ⟨?o0, ?o1, ?o2, ?o3, ?o4, ?o5, ?o6, ?o7, ?o8, ?o9, ?o10, ?o11, ?o12, ?o13, trivial⟩
    case o0 =>
      intro u a w' ev hJ hd K hK
      have e0 : a.tmps.getD 0 undef = .pointer (some ⟨b, 0, none⟩) := ev 0 (by decide)
      have HK := Lib.hid hK
      clear hK ev hd
      go_simp
      exact HK.out _ _ (fun h => by cases h) hJ rfl id
    case o1 =>
      intro u a w' ev hJ hd K hK
      have e55 : a.tmps.getD 55 undef = .pointer (some ⟨b, 0, none⟩) := (ev 55 (by decide)).trans (hd 0 _ (by kernel_rfl) rfl)
      have HK := Lib.hid hK
      clear hK ev hd
      go_simp
      exact HK.out _ _ (fun h => by cases h) hJ rfl id
    case o2 =>
      intro u a w' ev hJ hd K hK
      have e56 : a.tmps.getD 56 undef = .pointer (some ⟨b, 0, none⟩) := (ev 56 (by decide)).trans (hd 1 _ (by kernel_rfl) rfl)
      have HK := Lib.hid hK
      clear hK ev hd
      go_simp
      exact HK.out _ _ (fun h => by cases h) hJ rfl id
    case o3 =>
      intro u a w' ev hJ hd K hK
      have e57 : a.tmps.getD 57 undef = .pointer (some ⟨b, 0, none⟩) := (ev 57 (by decide)).trans (hd 2 _ (by kernel_rfl) rfl)
      have HK := Lib.hid hK
      clear hK ev hd
      go_simp
      exact HK.out _ _ (fun h => by cases h) hJ rfl id
    case o4 =>
      intro u a w' ev hJ hd K hK
      have e58 : a.tmps.getD 58 undef = .pointer (some ⟨b, 2, none⟩) := (ev 58 (by decide)).trans (hd 3 _ (by kernel_rfl) rfl)
      have g0 := (World.cell?_of_block (a := ⟨b, 2, none⟩) (hJ.1 b (by omega))).trans c2
      have HK := Lib.hid hK
      clear hK ev hd
      go_simp
      exact HK.out _ _ (fun h => by cases h) hJ rfl id
    case o5 =>
      intro u a w' ev hJ hd K hK
      have e1 : a.tmps.getD 1 undef = .int .i64 i := ev 1 (by decide)
      have HK := Lib.hid hK
      clear hK ev hd
      go_simp
      exact HK.out _ _ (fun h => by cases h) hJ rfl id
    case o6 =>
      intro u a w' ev hJ hd K hK
      have e0 : a.tmps.getD 0 undef = .pointer (some ⟨b, 0, none⟩) := ev 0 (by decide)
      have HK := Lib.hid hK
      clear hK ev hd
      go_simp
      exact HK.out _ _ (fun h => by cases h) hJ rfl id
    case o7 =>
      intro u a w' ev hJ hd K hK
      have e61 : a.tmps.getD 61 undef = .pointer (some ⟨b, 0, none⟩) := (ev 61 (by decide)).trans (hd 6 _ (by kernel_rfl) rfl)
      have HK := Lib.hid hK
      clear hK ev hd
      go_simp
      exact HK.out _ _ (fun h => by cases h) hJ rfl id
    case o8 =>
      intro u a w' ev hJ hd K hK
      have e62 : a.tmps.getD 62 undef = .pointer (some ⟨b, 0, none⟩) := (ev 62 (by decide)).trans (hd 7 _ (by kernel_rfl) rfl)
      have HK := Lib.hid hK
      clear hK ev hd
      go_simp
      exact HK.out _ _ (fun h => by cases h) hJ rfl id
    case o9 =>
      intro u a w' ev hJ hd K hK
      have e63 : a.tmps.getD 63 undef = .pointer (some ⟨b, 0, none⟩) := (ev 63 (by decide)).trans (hd 8 _ (by kernel_rfl) rfl)
      have HK := Lib.hid hK
      clear hK ev hd
      go_simp
      exact HK.out _ _ (fun h => by cases h) hJ rfl id
    case o10 =>
      intro u a w' ev hJ hd K hK
      have e64 : a.tmps.getD 64 undef = .pointer (some ⟨b, 3, none⟩) := (ev 64 (by decide)).trans (hd 9 _ (by kernel_rfl) rfl)
      have g0 := (World.cell?_of_block (a := ⟨b, 3, none⟩) (hJ.1 b (by omega))).trans c3
      have HK := Lib.hid hK
      clear hK ev hd
      go_simp
      exact HK.out _ _ (fun h => by cases h) hJ rfl id
    case o11 =>
      intro u a w' ev hJ hd K hK
      have e1 : a.tmps.getD 1 undef = .int .i64 i := ev 1 (by decide)
      have HK := Lib.hid hK
      clear hK ev hd
      go_simp
      exact HK.out _ _ (fun h => by cases h) hJ rfl id
    case o12 =>
      intro u a w' ev hJ hd K hK
      have e59 : a.tmps.getD 59 undef = .slice (some ⟨g2, 0, none⟩) n k2 := (ev 59 (by decide)).trans (hd 4 _ (by kernel_rfl) rfl)
      have e60 : a.tmps.getD 60 undef = .int .i64 i := (ev 60 (by decide)).trans (hd 5 _ (by kernel_rfl) rfl)
      have HK := Lib.hid hK
      clear hK ev hd
      go_simp
      exact HK.out _ _ (fun h => by cases h) hJ rfl id
    case o13 =>
      intro u a w' ev hJ hd K hK
      have e67 : a.tmps.getD 67 undef = .pointer (some ⟨g2, i, none⟩) := (ev 67 (by decide)).trans (hd 12 _ (by kernel_rfl) rfl)
      obtain ⟨⟨y, hy⟩, hf, hj⟩ := JST.out w' hJ
      have HK := Lib.hid hK
      clear hK ev hd
      go_simp
      exact HK.out _ _ (fun h => rfl) hj.1 hj.2 (fun _ => hj.2)
  case fin =>
    intro u w7 hJ hG
    have h65 : u 65 = .slice (some ⟨g3, 0, none⟩) n k3 := hG 10 _ rfl
    have h66 : u 66 = .int .i64 i := hG 11 _ rfl
    have hnew : OWn w7 := hG 13 _ rfl
    rw [HON.out] at hnew
    have O27 := Lib.hid hnew
    have hz7 : w7.heap.size = w4.heap.size := hJ.2.1
    have hk7 : ∀ q, q ≠ g2 → w7.heap[q]? = w4.heap[q]? := hJ.1
    have K7 : Hid (KeptA g1 g2 g3 g4 w w7) := Lib.hid (K4.out.step (by omega) hJ.2.2.1.1 hJ.2.2.1.2.1 hJ.2.2.1.2.2 fun q hq h1 h2 h3 h4 => hk7 q (by omega))
    replace c0 : w7.cell? ⟨b, 0, none⟩ = some (.int .i64 seg) := (World.cell?_of_block (a := ⟨b, 0, none⟩) (hk7 b (by omega))).trans c0
    replace c1 : w7.cell? ⟨b, 1, none⟩ = some (.slice (some ⟨g1, 0, none⟩) lw k1) := (World.cell?_of_block (a := ⟨b, 1, none⟩) (hk7 b (by omega))).trans c1
    replace c2 : w7.cell? ⟨b, 2, none⟩ = some (.slice (some ⟨g2, 0, none⟩) n k2) := (World.cell?_of_block (a := ⟨b, 2, none⟩) (hk7 b (by omega))).trans c2
    replace c3 : w7.cell? ⟨b, 3, none⟩ = some (.slice (some ⟨g3, 0, none⟩) n k3) := (World.cell?_of_block (a := ⟨b, 3, none⟩) (hk7 b (by omega))).trans c3
    replace c4 : w7.cell? ⟨b, 4, none⟩ = some (.slice (some ⟨g4, 0, none⟩) lc k4) := (World.cell?_of_block (a := ⟨b, 4, none⟩) (hk7 b (by omega))).trans c4
    replace c5 : w7.cell? ⟨b, 5, none⟩ = some (.int .u64 laid) := (World.cell?_of_block (a := ⟨b, 5, none⟩) (hk7 b (by omega))).trans c5
    replace d3 : w7.cell? ⟨g3, i, none⟩ = some (.int .i64 vx) := (World.cell?_of_block (a := ⟨g3, i, none⟩) (hk7 g3 (by omega))).trans d3
    replace f1 : w7.frozen? ⟨g1, qi, none⟩ = false := (frozen_of_block (hk7 g1 (by omega)) _).trans f1
    replace f3 : w7.frozen? ⟨g3, i, none⟩ = false := (frozen_of_block (hk7 g3 (by omega)) _).trans f3
    replace f4 : w7.frozen? ⟨g4, s, none⟩ = false := (frozen_of_block (hk7 g4 (by omega)) _).trans f4
    replace f5 : w7.frozen? ⟨b, 5, none⟩ = false := (frozen_of_block (hk7 b (by omega)) _).trans f5
    replace r0 := (World.cell?_of_block (a := ⟨w.heap.size, 0, none⟩) (hk7 w.heap.size (by omega))).trans r0
    replace p0 := (frozen_of_block (hk7 w.heap.size (by omega)) 0).trans p0
    replace r1 := (World.cell?_of_block (a := ⟨w.heap.size, 1, none⟩) (hk7 w.heap.size (by omega))).trans r1
    replace p1 := (frozen_of_block (hk7 w.heap.size (by omega)) 1).trans p1
    replace O1 := Lib.hid (owns_heap (W' := w7) O1.out fun j hj => by cases hj; exact hk7 g1 (by omega))
    replace O3 := Lib.hid (owns_heap (W' := w7) O3.out fun j hj => by cases hj; exact hk7 g3 (by omega))
    replace O4 := Lib.hid (owns_heap (W' := w7) O4.out fun j hj => by cases hj; exact hk7 g4 (by omega))
    clear hG hJ hnew hk7 JIN JST K4 O2 HON
    simp only [mixFrame, mixL, dstsOf, List.take_succ_cons, List.take_zero, List.filterMap_cons, List.filterMap_nil, List.contains_cons, List.contains_nil, Nat.reduceBEq, Bool.or_false, Bool.false_or, Bool.or_true, Bool.true_or, if_true, if_false, Bool.false_eq_true, Nat.reduceAdd, Nat.zero_add, List.drop_succ_cons, List.drop_zero, h65, h66]
    go_wp2
    have hkE : ∀ q, q ≠ g3 → q ≠ w.heap.size → (((w7.setCell ⟨g3, i, none⟩ (.int .i64 0)).setCell ⟨w.heap.size, 0, none⟩ (.int .i64 kx)).setCell ⟨w.heap.size, 1, none⟩ (.int .i64 vx)).heap[q]? = w7.heap[q]? := fun q h1 h2 => by rw [heap_setCell_ne _ _ _ h2, heap_setCell_ne _ _ _ h2, heap_setCell_ne _ _ _ h1]
    have hkR : ∀ q, q ≠ w.heap.size → (((w7.setCell ⟨g3, i, none⟩ (.int .i64 0)).setCell ⟨w.heap.size, 0, none⟩ (.int .i64 kx)).setCell ⟨w.heap.size, 1, none⟩ (.int .i64 vx)).heap[q]? = (w7.setCell ⟨g3, i, none⟩ (.int .i64 0)).heap[q]? := fun q h2 => by rw [heap_setCell_ne _ _ _ h2, heap_setCell_ne _ _ _ h2]
    refine bodyPost_ret (results_c rfl rfl (run_loadVar_two Try.underlying52 rfl (by kernel_rfl) (v := .int .i64 kx) (u := .int .i64 vx) (set_keep (by simp) (World.cell?_setCell_same _ _ _ (set_keep (by simp <;> omega) r0))) (World.cell?_setCell_same _ _ _ (set_keep (by simp) (set_keep (by simp <;> omega) r1))))) rfl ⟨rfl, ?_, ?_⟩
    · refine ⟨?_, ?_, ?_, ?_, ?_, ?_, ?_, ?_, ?_, ?_, ?_⟩
      · exact (World.cell?_of_block (a := ⟨b, 0, none⟩) (hkE b (by omega) (by omega))).trans c0
      · exact (World.cell?_of_block (a := ⟨b, 1, none⟩) (hkE b (by omega) (by omega))).trans c1
      · exact (World.cell?_of_block (a := ⟨b, 2, none⟩) (hkE b (by omega) (by omega))).trans c2
      · exact (World.cell?_of_block (a := ⟨b, 3, none⟩) (hkE b (by omega) (by omega))).trans c3
      · exact (World.cell?_of_block (a := ⟨b, 4, none⟩) (hkE b (by omega) (by omega))).trans c4
      · exact (World.cell?_of_block (a := ⟨b, 5, none⟩) (hkE b (by omega) (by omega))).trans c5
      · exact (frozen_of_block (hkE b (by omega) (by omega)) 5).trans f5
      · exact owns_heap O1.out fun j hj => by cases hj; exact hkE g1 (by omega) (by omega)
      · exact owns_heap O27.out fun j hj => by cases hj; exact hkE g2 (by omega) (by omega)
      · exact owns_heap (own_set O3.out i 0) fun j hj => by cases hj; exact hkR g3 (by omega)
      · exact owns_heap O4.out fun j hj => by cases hj; exact hkE g4 (by omega) (by omega)
    · exact K7.out.step (by simp) rfl rfl rfl fun q hq h1 h2 h3 h4 => hkE q h3 (by omega)

set_option maxRecDepth 100000 in
set_option maxHeartbeats 2000000 in
theorem slTake_clr (w : World) (B b g1 g2 g3 g4 k1 k2 k3 k4 lw n lc i qi r s : Nat) (seg x kx vx nx : Int) (laid : Int) (ws ks vs cs : List Int)
    (c0 : w.cell? ⟨b, 0, none⟩ = some (.int .i64 seg)) (c1 : w.cell? ⟨b, 1, none⟩ = some (.slice (some ⟨g1, 0, none⟩) lw k1)) (c2 : w.cell? ⟨b, 2, none⟩ = some (.slice (some ⟨g2, 0, none⟩) n k2)) (c3 : w.cell? ⟨b, 3, none⟩ = some (.slice (some ⟨g3, 0, none⟩) n k3)) (c4 : w.cell? ⟨b, 4, none⟩ = some (.slice (some ⟨g4, 0, none⟩) lc k4)) (c5 : w.cell? ⟨b, 5, none⟩ = some (.int .u64 laid)) (f5 : w.frozen? ⟨b, 5, none⟩ = false)
    (O1 : Hid (w.ownsRow B 27 1 (.slice (some ⟨g1, 0, none⟩) lw k1) lw ((ws).map (Value.int .u64)))) (O2 : Hid (w.ownsRow B 2 1 (.slice (some ⟨g2, 0, none⟩) n k2) n ((ks).map (Value.int .i64)))) (O3 : Hid (w.ownsRow B 2 1 (.slice (some ⟨g3, 0, none⟩) n k3) n ((vs).map (Value.int .i64)))) (O4 : Hid (w.ownsRow B 3 1 (.slice (some ⟨g4, 0, none⟩) lc k4) lc ((cs).map (Value.int .i64))))
    (d1 : w.cell? ⟨g1, qi, none⟩ = some (.int .u64 x)) (d2 : w.cell? ⟨g2, i, none⟩ = some (.int .i64 kx)) (d3 : w.cell? ⟨g3, i, none⟩ = some (.int .i64 vx)) (d4 : w.cell? ⟨g4, s, none⟩ = some (.int .i64 nx))
    (f1 : w.frozen? ⟨g1, qi, none⟩ = false) (f2 : w.frozen? ⟨g2, i, none⟩ = false) (f3 : w.frozen? ⟨g3, i, none⟩ = false) (f4 : w.frozen? ⟨g4, s, none⟩ = false)
    (hin : i < n) (hn : n ≤ 65536) (hqI : (i : Int) / 64 = qi) (hrI : (i : Int) % 64 = r) (hrT : (i : Int).tmod 64 = r) (hr : r < 64) (hqi : qi < lw) (hs : s < lc) (hsI : (i : Int) / seg = s) (hsg : (seg == 0) = false) (hsg2 : ¬ seg = 0) (hsg3 : 4 ≤ seg) (hlc : lc ≤ 65536) (hlw : lw ≤ 65536)
    (n1 : g1 ≠ b) (n2 : g2 ≠ b) (n3 : g3 ≠ b) (n4 : g4 ≠ b) (n12 : g1 ≠ g2) (n13 : g1 ≠ g3) (n14 : g1 ≠ g4) (n23 : g2 ≠ g3) (n24 : g2 ≠ g4) (n34 : g3 ≠ g4) (hnx : 0 ≤ nx) (hnx2 : nx ≤ 65536)
    (IS : Hid (∀ W, W.cell? ⟨b, 1, none⟩ = some (.slice (some ⟨g1, 0, none⟩) lw k1) → W.cell? ⟨g1, qi, none⟩ = some (.int .u64 x) → Calls Try.prog 88 #[.pointer (some ⟨b, 0, none⟩), .int .i64 i] W fun e w' => e = .returned (.bool false) ∧ W = w')) (ne : True) :
    Calls Try.prog 67 #[.pointer (some ⟨b, 0, none⟩), .int .i64 i] w fun e W => e = .returned (.agg #[.int .i64 kx, .int .i64 vx]) ∧ ArrOn B W b g1 g2 g3 g4 k1 k2 k3 k4 lw n lc seg laid (ws.set qi (bits BinOp.andNot IntKind.u64 x (IntKind.u64.wrap (2 ^ r)))) (ks.set i 0) (vs.set i 0) (cs) ∧ KeptA g1 g2 g3 g4 w W := by
  have y0 := World.block_lt_of_cell? _ _ c0
  have y1 := World.block_lt_of_cell? _ _ d1
  have y2 := World.block_lt_of_cell? _ _ d2
  have y3 := World.block_lt_of_cell? _ _ d3
  have y4 := World.block_lt_of_cell? _ _ d4
  dsimp only at y0 y1 y2 y3 y4
  go_enter Try.func67, Try.ntmps67
  go_wp2
  have hba : Below w.heap.size w (w.alloc (.cells #[.int .i64 0, .int .i64 0] 52)) := (Below.refl _ _).alloc (Nat.le_refl _) _
  have hz1 : (w.alloc (.cells #[.int .i64 0, .int .i64 0] 52)).heap.size = w.heap.size + 1 := by simp
  have r0 : (w.alloc (.cells #[.int .i64 0, .int .i64 0] 52)).cell? ⟨w.heap.size, 0, none⟩ = some (.int .i64 0) := by ((try simp (disch := first | omega | (simp only [szW] <;> omega) | fail) only [ceW]) <;> rfl)
  have r1 : (w.alloc (.cells #[.int .i64 0, .int .i64 0] 52)).cell? ⟨w.heap.size, 1, none⟩ = some (.int .i64 0) := by ((try simp (disch := first | omega | (simp only [szW] <;> omega) | fail) only [ceW]) <;> rfl)
  have p0 : (w.alloc (.cells #[.int .i64 0, .int .i64 0] 52)).frozen? ⟨w.heap.size, 0, none⟩ = false := by ((try simp (disch := first | omega | (simp only [szW] <;> omega) | fail) only [ceW]) <;> rfl)
  have p1 : (w.alloc (.cells #[.int .i64 0, .int .i64 0] 52)).frozen? ⟨w.heap.size, 1, none⟩ = false := by ((try simp (disch := first | omega | (simp only [szW] <;> omega) | fail) only [ceW]) <;> rfl)
  generalize (w.alloc (.cells #[.int .i64 0, .int .i64 0] 52)) = w1 at *
  replace c0 : w1.cell? ⟨b, 0, none⟩ = some (.int .i64 seg) := (hba.cell (p := ⟨b, 0, none⟩) (by dsimp only; omega)).trans c0
  replace c1 : w1.cell? ⟨b, 1, none⟩ = some (.slice (some ⟨g1, 0, none⟩) lw k1) := (hba.cell (p := ⟨b, 1, none⟩) (by dsimp only; omega)).trans c1
  replace c2 : w1.cell? ⟨b, 2, none⟩ = some (.slice (some ⟨g2, 0, none⟩) n k2) := (hba.cell (p := ⟨b, 2, none⟩) (by dsimp only; omega)).trans c2
  replace c3 : w1.cell? ⟨b, 3, none⟩ = some (.slice (some ⟨g3, 0, none⟩) n k3) := (hba.cell (p := ⟨b, 3, none⟩) (by dsimp only; omega)).trans c3
  replace c4 : w1.cell? ⟨b, 4, none⟩ = some (.slice (some ⟨g4, 0, none⟩) lc k4) := (hba.cell (p := ⟨b, 4, none⟩) (by dsimp only; omega)).trans c4
  replace c5 : w1.cell? ⟨b, 5, none⟩ = some (.int .u64 laid) := (hba.cell (p := ⟨b, 5, none⟩) (by dsimp only; omega)).trans c5
  replace d1 : w1.cell? ⟨g1, qi, none⟩ = some (.int .u64 x) := (hba.cell (p := ⟨g1, qi, none⟩) (by dsimp only; omega)).trans d1
  replace d2 : w1.cell? ⟨g2, i, none⟩ = some (.int .i64 kx) := (hba.cell (p := ⟨g2, i, none⟩) (by dsimp only; omega)).trans d2
  replace d3 : w1.cell? ⟨g3, i, none⟩ = some (.int .i64 vx) := (hba.cell (p := ⟨g3, i, none⟩) (by dsimp only; omega)).trans d3
  replace d4 : w1.cell? ⟨g4, s, none⟩ = some (.int .i64 nx) := (hba.cell (p := ⟨g4, s, none⟩) (by dsimp only; omega)).trans d4
  replace f1 : w1.frozen? ⟨g1, qi, none⟩ = false := (hba.frozen (p := ⟨g1, qi, none⟩) (by dsimp only; omega)).trans f1
  replace f2 : w1.frozen? ⟨g2, i, none⟩ = false := (hba.frozen (p := ⟨g2, i, none⟩) (by dsimp only; omega)).trans f2
  replace f3 : w1.frozen? ⟨g3, i, none⟩ = false := (hba.frozen (p := ⟨g3, i, none⟩) (by dsimp only; omega)).trans f3
  replace f4 : w1.frozen? ⟨g4, s, none⟩ = false := (hba.frozen (p := ⟨g4, s, none⟩) (by dsimp only; omega)).trans f4
  replace f5 : w1.frozen? ⟨b, 5, none⟩ = false := (hba.frozen (p := ⟨b, 5, none⟩) (by dsimp only; omega)).trans f5
  replace O1 := Lib.hid (owns_below O1.out hba)
  replace O2 := Lib.hid (owns_below O2.out hba)
  replace O3 := Lib.hid (owns_below O3.out hba)
  replace O4 := Lib.hid (owns_below O4.out hba)
  have K1 : Hid (KeptA g1 g2 g3 g4 w w1) := Lib.hid (KeptA.below hba)
  clear hba
  have hiI : (i : Int) < n := by omega
  go_still_tail 17, (by kernel_rfl)
  go_wp2_with fail
  have hk2 : ∀ q, q ≠ w.heap.size → (((w1.setCell ⟨w.heap.size, 0, none⟩ (.int .i64 kx)).setCell ⟨w.heap.size, 1, none⟩ (.int .i64 vx)).drew).heap[q]? = w1.heap[q]? := fun q hq => (heap_setCell_ne _ _ _ hq).trans (heap_setCell_ne _ _ _ hq)
  have hf2 : ∀ a : Addr, (((w1.setCell ⟨w.heap.size, 0, none⟩ (.int .i64 kx)).setCell ⟨w.heap.size, 1, none⟩ (.int .i64 vx)).drew).frozen? a = w1.frozen? a := fun a => by rw [World.frozen?_drew, World.frozen?_setCell, World.frozen?_setCell]
  replace r0 : (((w1.setCell ⟨w.heap.size, 0, none⟩ (.int .i64 kx)).setCell ⟨w.heap.size, 1, none⟩ (.int .i64 vx)).drew).cell? ⟨w.heap.size, 0, none⟩ = some (.int .i64 kx) := (set_keep (by simp) (World.cell?_setCell_same _ _ _ r0))
  replace r1 : (((w1.setCell ⟨w.heap.size, 0, none⟩ (.int .i64 kx)).setCell ⟨w.heap.size, 1, none⟩ (.int .i64 vx)).drew).cell? ⟨w.heap.size, 1, none⟩ = some (.int .i64 vx) := (World.cell?_setCell_same _ _ _ (set_keep (by simp) r1))
  have K2 : Hid (KeptA g1 g2 g3 g4 w (((w1.setCell ⟨w.heap.size, 0, none⟩ (.int .i64 kx)).setCell ⟨w.heap.size, 1, none⟩ (.int .i64 vx)).drew)) := Lib.hid (K1.out.step (by simp) rfl rfl rfl fun q hq _ _ _ _ => hk2 q (by omega))
  have hz2 : (((w1.setCell ⟨w.heap.size, 0, none⟩ (.int .i64 kx)).setCell ⟨w.heap.size, 1, none⟩ (.int .i64 vx)).drew).heap.size = w1.heap.size := by simp
  generalize (((w1.setCell ⟨w.heap.size, 0, none⟩ (.int .i64 kx)).setCell ⟨w.heap.size, 1, none⟩ (.int .i64 vx)).drew) = w2 at *
  replace c0 : w2.cell? ⟨b, 0, none⟩ = some (.int .i64 seg) := (World.cell?_of_block (a := ⟨b, 0, none⟩) (hk2 b (by omega))).trans c0
  replace c1 : w2.cell? ⟨b, 1, none⟩ = some (.slice (some ⟨g1, 0, none⟩) lw k1) := (World.cell?_of_block (a := ⟨b, 1, none⟩) (hk2 b (by omega))).trans c1
  replace c2 : w2.cell? ⟨b, 2, none⟩ = some (.slice (some ⟨g2, 0, none⟩) n k2) := (World.cell?_of_block (a := ⟨b, 2, none⟩) (hk2 b (by omega))).trans c2
  replace c3 : w2.cell? ⟨b, 3, none⟩ = some (.slice (some ⟨g3, 0, none⟩) n k3) := (World.cell?_of_block (a := ⟨b, 3, none⟩) (hk2 b (by omega))).trans c3
  replace c4 : w2.cell? ⟨b, 4, none⟩ = some (.slice (some ⟨g4, 0, none⟩) lc k4) := (World.cell?_of_block (a := ⟨b, 4, none⟩) (hk2 b (by omega))).trans c4
  replace c5 : w2.cell? ⟨b, 5, none⟩ = some (.int .u64 laid) := (World.cell?_of_block (a := ⟨b, 5, none⟩) (hk2 b (by omega))).trans c5
  replace d1 : w2.cell? ⟨g1, qi, none⟩ = some (.int .u64 x) := (World.cell?_of_block (a := ⟨g1, qi, none⟩) (hk2 g1 (by omega))).trans d1
  replace d2 : w2.cell? ⟨g2, i, none⟩ = some (.int .i64 kx) := (World.cell?_of_block (a := ⟨g2, i, none⟩) (hk2 g2 (by omega))).trans d2
  replace d3 : w2.cell? ⟨g3, i, none⟩ = some (.int .i64 vx) := (World.cell?_of_block (a := ⟨g3, i, none⟩) (hk2 g3 (by omega))).trans d3
  replace d4 : w2.cell? ⟨g4, s, none⟩ = some (.int .i64 nx) := (World.cell?_of_block (a := ⟨g4, s, none⟩) (hk2 g4 (by omega))).trans d4
  replace f1 : w2.frozen? ⟨g1, qi, none⟩ = false := (hf2 _).trans f1
  replace f2 : w2.frozen? ⟨g2, i, none⟩ = false := (hf2 _).trans f2
  replace f3 : w2.frozen? ⟨g3, i, none⟩ = false := (hf2 _).trans f3
  replace f4 : w2.frozen? ⟨g4, s, none⟩ = false := (hf2 _).trans f4
  replace f5 : w2.frozen? ⟨b, 5, none⟩ = false := (hf2 _).trans f5
  replace p0 := (hf2 _).trans p0
  replace p1 := (hf2 _).trans p1
  replace O1 := Lib.hid (owns_heap (W' := w2) O1.out fun j hj => by cases hj; exact hk2 g1 (by omega))
  replace O2 := Lib.hid (owns_heap (W' := w2) O2.out fun j hj => by cases hj; exact hk2 g2 (by omega))
  replace O3 := Lib.hid (owns_heap (W' := w2) O3.out fun j hj => by cases hj; exact hk2 g3 (by omega))
  replace O4 := Lib.hid (owns_heap (W' := w2) O4.out fun j hj => by cases hj; exact hk2 g4 (by omega))
  clear hk2 hf2 K1
  refine (IS.out _ c1 d1).mono ?_
  rintro e w' ⟨rfl, rfl⟩
  have hqI2 : (qi : Int) < lw := by omega
  have hsI2 : (s : Int) < lc := by omega
  have hws : IntKind.i64.wrap (s : Int) = (s : Int) := IntWalk.i64_in _ (by omega)
  have hwq : IntKind.i64.wrap (qi : Int) = (qi : Int) := IntWalk.i64_in _ (by omega)
  have hwr : IntKind.i64.wrap (r : Int) = (r : Int) := IntWalk.i64_in _ (by omega)
  have hwn : IntKind.i64.wrap (nx - 1) = nx - 1 := IntWalk.i64_in _ (by omega)
  go_wp2
  go_still_tail 13, (by kernel_rfl)
  go_wp2
  have hk_w4 : ∀ q, q ≠ g1 → ((w2.setCell ⟨g1, qi, none⟩ (.int .u64 (bits BinOp.andNot IntKind.u64 x (IntKind.u64.wrap (2 ^ r))))).drew).heap[q]? = w2.heap[q]? := fun q hq => heap_setCell_ne _ _ _ hq
  have hf_w4 : ∀ a : Addr, ((w2.setCell ⟨g1, qi, none⟩ (.int .u64 (bits BinOp.andNot IntKind.u64 x (IntKind.u64.wrap (2 ^ r))))).drew).frozen? a = w2.frozen? a := fun a => by rw [World.frozen?_drew, World.frozen?_setCell]
  have K4 : Hid (KeptA g1 g2 g3 g4 w ((w2.setCell ⟨g1, qi, none⟩ (.int .u64 (bits BinOp.andNot IntKind.u64 x (IntKind.u64.wrap (2 ^ r))))).drew)) := Lib.hid (K2.out.step (by simp) rfl rfl rfl fun q hq h1 h2 h3 h4 => hk_w4 q (by omega))
  have hz_w4 : ((w2.setCell ⟨g1, qi, none⟩ (.int .u64 (bits BinOp.andNot IntKind.u64 x (IntKind.u64.wrap (2 ^ r))))).drew).heap.size = w2.heap.size := by simp
  have nO1 : Hid (((w2.setCell ⟨g1, qi, none⟩ (.int .u64 (bits BinOp.andNot IntKind.u64 x (IntKind.u64.wrap (2 ^ r))))).drew).ownsRow B 27 1 (.slice (some ⟨g1, 0, none⟩) lw k1) lw ((ws.set qi (bits BinOp.andNot IntKind.u64 x (IntKind.u64.wrap (2 ^ r)))).map (Value.int .u64))) := Lib.hid (owns_drew (own_set O1.out qi (bits BinOp.andNot IntKind.u64 x (IntKind.u64.wrap (2 ^ r)))))
  generalize ((w2.setCell ⟨g1, qi, none⟩ (.int .u64 (bits BinOp.andNot IntKind.u64 x (IntKind.u64.wrap (2 ^ r))))).drew) = w4 at *
  clear d1
  replace c0 : w4.cell? ⟨b, 0, none⟩ = some (.int .i64 seg) := (World.cell?_of_block (a := ⟨b, 0, none⟩) (hk_w4 b (by omega))).trans c0
  replace c1 : w4.cell? ⟨b, 1, none⟩ = some (.slice (some ⟨g1, 0, none⟩) lw k1) := (World.cell?_of_block (a := ⟨b, 1, none⟩) (hk_w4 b (by omega))).trans c1
  replace c2 : w4.cell? ⟨b, 2, none⟩ = some (.slice (some ⟨g2, 0, none⟩) n k2) := (World.cell?_of_block (a := ⟨b, 2, none⟩) (hk_w4 b (by omega))).trans c2
  replace c3 : w4.cell? ⟨b, 3, none⟩ = some (.slice (some ⟨g3, 0, none⟩) n k3) := (World.cell?_of_block (a := ⟨b, 3, none⟩) (hk_w4 b (by omega))).trans c3
  replace c4 : w4.cell? ⟨b, 4, none⟩ = some (.slice (some ⟨g4, 0, none⟩) lc k4) := (World.cell?_of_block (a := ⟨b, 4, none⟩) (hk_w4 b (by omega))).trans c4
  replace c5 : w4.cell? ⟨b, 5, none⟩ = some (.int .u64 laid) := (World.cell?_of_block (a := ⟨b, 5, none⟩) (hk_w4 b (by omega))).trans c5
  replace d2 : w4.cell? ⟨g2, i, none⟩ = some (.int .i64 kx) := (World.cell?_of_block (a := ⟨g2, i, none⟩) (hk_w4 g2 (by omega))).trans d2
  replace d3 : w4.cell? ⟨g3, i, none⟩ = some (.int .i64 vx) := (World.cell?_of_block (a := ⟨g3, i, none⟩) (hk_w4 g3 (by omega))).trans d3
  replace d4 : w4.cell? ⟨g4, s, none⟩ = some (.int .i64 nx) := (World.cell?_of_block (a := ⟨g4, s, none⟩) (hk_w4 g4 (by omega))).trans d4
  replace f1 : w4.frozen? ⟨g1, qi, none⟩ = false := (hf_w4 _).trans f1
  replace f2 : w4.frozen? ⟨g2, i, none⟩ = false := (hf_w4 _).trans f2
  replace f3 : w4.frozen? ⟨g3, i, none⟩ = false := (hf_w4 _).trans f3
  replace f4 : w4.frozen? ⟨g4, s, none⟩ = false := (hf_w4 _).trans f4
  replace f5 : w4.frozen? ⟨b, 5, none⟩ = false := (hf_w4 _).trans f5
  replace r0 := (World.cell?_of_block (a := ⟨w.heap.size, 0, none⟩) (hk_w4 w.heap.size (by omega))).trans r0
  replace p0 := (hf_w4 _).trans p0
  replace r1 := (World.cell?_of_block (a := ⟨w.heap.size, 1, none⟩) (hk_w4 w.heap.size (by omega))).trans r1
  replace p1 := (hf_w4 _).trans p1
  replace O2 := Lib.hid (owns_heap (W' := w4) O2.out fun j hj => by cases hj; exact hk_w4 g2 (by omega))
  replace O3 := Lib.hid (owns_heap (W' := w4) O3.out fun j hj => by cases hj; exact hk_w4 g3 (by omega))
  replace O4 := Lib.hid (owns_heap (W' := w4) O4.out fun j hj => by cases hj; exact hk_w4 g4 (by omega))
  replace O1 := nO1
  clear nO1 hk_w4 hf_w4 K2
  obtain ⟨OWo, hOo⟩ : ∃ P : World → Prop, P = fun W => W.ownsRow B 2 1 (.slice (some ⟨g2, 0, none⟩) n k2) n ((ks).map (Value.int .i64)) := ⟨_, rfl⟩
  obtain ⟨OWn, hOn⟩ : ∃ P : World → Prop, P = fun W => W.ownsRow B 2 1 (.slice (some ⟨g2, 0, none⟩) n k2) n ((ks.set i 0).map (Value.int .i64)) := ⟨_, rfl⟩
  have JIN : Hid (JB g2 w4.drew OWo OWn w4.drew) := Lib.hid ⟨fun _ _ => rfl, rfl, ⟨rfl, rfl, rfl⟩, .inl (by rw [hOo]; exact owns_drew O2.out)⟩
  have hkl : ks.length = n := own_len O2.out
  have JST : Hid (∀ w', JB g2 w4.drew OWo OWn w' → (∃ y, w'.cell? ⟨g2, i, none⟩ = some (.int .i64 y)) ∧ w'.frozen? ⟨g2, i, none⟩ = false ∧ JB g2 w4.drew OWo OWn (w'.setCell ⟨g2, i, none⟩ (.int .i64 0)) ∧ OWn (w'.setCell ⟨g2, i, none⟩ (.int .i64 0))) := Lib.hid (by
    rintro w' ⟨j1, j2, j4, j3⟩
    have key : (∃ y, w'.cell? ⟨g2, i, none⟩ = some (.int .i64 y)) ∧ w'.frozen? ⟨g2, i, none⟩ = false ∧ OWn (w'.setCell ⟨g2, i, none⟩ (.int .i64 0)) := by
      rcases j3 with j3 | j3
      · rw [hOo] at j3
        obtain ⟨y0, y1⟩ := own_cell j3 (j := i) (by omega)
        have y2 := own_set j3 i 0
        rw [hOn]
        exact ⟨⟨_, y0⟩, y1, y2⟩
      · rw [hOn] at j3
        obtain ⟨y0, y1⟩ := own_cell j3 (j := i) (by rw [List.length_set]; omega)
        have y2 := own_set j3 i 0
        rw [List.set_set] at y2
        rw [hOn]
        exact ⟨⟨_, y0⟩, y1, y2⟩
    exact ⟨key.1, key.2.1, ⟨fun q hq => (heap_setCell_ne _ _ _ hq).trans (j1 q hq), by rw [World.size_setCell]; exact j2, j4, .inr key.2.2⟩, key.2.2⟩)
  have HON := Lib.hid hOn
  clear hOo hOn d2 f2
  refine wp_region_late 14 (by kernel_rfl) (N := 70) rfl (by kernel_rfl) (by kernel_rfl) (by decide) (fun w' => JB g2 w4.drew OWo OWn w') (fun W W' => OWn W → OWn W') (factRAt [.is (.pointer (some ⟨b, 0, none⟩)), .is (.pointer (some ⟨b, 0, none⟩)), .is (.pointer (some ⟨b, 0, none⟩)), .is (.pointer (some ⟨b, 2, none⟩)), .is (.slice (some ⟨g2, 0, none⟩) n k2), .is (.int .i64 i), .is (.pointer (some ⟨b, 0, none⟩)), .is (.pointer (some ⟨b, 0, none⟩)), .is (.pointer (some ⟨b, 0, none⟩)), .is (.pointer (some ⟨b, 3, none⟩)), .is (.slice (some ⟨g3, 0, none⟩) n k3), .is (.int .i64 i), .is (.pointer (some ⟨g2, i, none⟩)), .now OWn (fun _ _ h k => h k)]) (factRAt_stays _) JIN.out ?steps ?fin
  case steps =>
    refine ⟨?o0, ?o1, ?o2, ?o3, ?o4, ?o5, ?o6, ?o7, ?o8, ?o9, ?o10, ?o11, ?o12, ?o13, trivial⟩
    case o0 =>
      intro u a w' ev hJ hd K hK
      have e0 : a.tmps.getD 0 undef = .pointer (some ⟨b, 0, none⟩) := ev 0 (by decide)
      have HK := Lib.hid hK
      clear hK ev hd
      go_simp
      exact HK.out _ _ (fun h => by cases h) hJ rfl id
    case o1 =>
      intro u a w' ev hJ hd K hK
      have e55 : a.tmps.getD 55 undef = .pointer (some ⟨b, 0, none⟩) := (ev 55 (by decide)).trans (hd 0 _ (by kernel_rfl) rfl)
      have HK := Lib.hid hK
      clear hK ev hd
      go_simp
      exact HK.out _ _ (fun h => by cases h) hJ rfl id
    case o2 =>
      intro u a w' ev hJ hd K hK
      have e56 : a.tmps.getD 56 undef = .pointer (some ⟨b, 0, none⟩) := (ev 56 (by decide)).trans (hd 1 _ (by kernel_rfl) rfl)
      have HK := Lib.hid hK
      clear hK ev hd
      go_simp
      exact HK.out _ _ (fun h => by cases h) hJ rfl id
    case o3 =>
      intro u a w' ev hJ hd K hK
      have e57 : a.tmps.getD 57 undef = .pointer (some ⟨b, 0, none⟩) := (ev 57 (by decide)).trans (hd 2 _ (by kernel_rfl) rfl)
      have HK := Lib.hid hK
      clear hK ev hd
      go_simp
      exact HK.out _ _ (fun h => by cases h) hJ rfl id
    case o4 =>
      intro u a w' ev hJ hd K hK
      have e58 : a.tmps.getD 58 undef = .pointer (some ⟨b, 2, none⟩) := (ev 58 (by decide)).trans (hd 3 _ (by kernel_rfl) rfl)
      have g0 := (World.cell?_of_block (a := ⟨b, 2, none⟩) (hJ.1 b (by omega))).trans c2
      have HK := Lib.hid hK
      clear hK ev hd
      go_simp
      exact HK.out _ _ (fun h => by cases h) hJ rfl id
    case o5 =>
      intro u a w' ev hJ hd K hK
      have e1 : a.tmps.getD 1 undef = .int .i64 i := ev 1 (by decide)
      have HK := Lib.hid hK
      clear hK ev hd
      go_simp
      exact HK.out _ _ (fun h => by cases h) hJ rfl id
    case o6 =>
      intro u a w' ev hJ hd K hK
      have e0 : a.tmps.getD 0 undef = .pointer (some ⟨b, 0, none⟩) := ev 0 (by decide)
      have HK := Lib.hid hK
      clear hK ev hd
      go_simp
      exact HK.out _ _ (fun h => by cases h) hJ rfl id
    case o7 =>
      intro u a w' ev hJ hd K hK
      have e61 : a.tmps.getD 61 undef = .pointer (some ⟨b, 0, none⟩) := (ev 61 (by decide)).trans (hd 6 _ (by kernel_rfl) rfl)
      have HK := Lib.hid hK
      clear hK ev hd
      go_simp
      exact HK.out _ _ (fun h => by cases h) hJ rfl id
    case o8 =>
      intro u a w' ev hJ hd K hK
      have e62 : a.tmps.getD 62 undef = .pointer (some ⟨b, 0, none⟩) := (ev 62 (by decide)).trans (hd 7 _ (by kernel_rfl) rfl)
      have HK := Lib.hid hK
      clear hK ev hd
      go_simp
      exact HK.out _ _ (fun h => by cases h) hJ rfl id
    case o9 =>
      intro u a w' ev hJ hd K hK
      have e63 : a.tmps.getD 63 undef = .pointer (some ⟨b, 0, none⟩) := (ev 63 (by decide)).trans (hd 8 _ (by kernel_rfl) rfl)
      have HK := Lib.hid hK
      clear hK ev hd
      go_simp
      exact HK.out _ _ (fun h => by cases h) hJ rfl id
    case o10 =>
      intro u a w' ev hJ hd K hK
      have e64 : a.tmps.getD 64 undef = .pointer (some ⟨b, 3, none⟩) := (ev 64 (by decide)).trans (hd 9 _ (by kernel_rfl) rfl)
      have g0 := (World.cell?_of_block (a := ⟨b, 3, none⟩) (hJ.1 b (by omega))).trans c3
      have HK := Lib.hid hK
      clear hK ev hd
      go_simp
      exact HK.out _ _ (fun h => by cases h) hJ rfl id
    case o11 =>
      intro u a w' ev hJ hd K hK
      have e1 : a.tmps.getD 1 undef = .int .i64 i := ev 1 (by decide)
      have HK := Lib.hid hK
      clear hK ev hd
      go_simp
      exact HK.out _ _ (fun h => by cases h) hJ rfl id
    case o12 =>
      intro u a w' ev hJ hd K hK
      have e59 : a.tmps.getD 59 undef = .slice (some ⟨g2, 0, none⟩) n k2 := (ev 59 (by decide)).trans (hd 4 _ (by kernel_rfl) rfl)
      have e60 : a.tmps.getD 60 undef = .int .i64 i := (ev 60 (by decide)).trans (hd 5 _ (by kernel_rfl) rfl)
      have HK := Lib.hid hK
      clear hK ev hd
      go_simp
      exact HK.out _ _ (fun h => by cases h) hJ rfl id
    case o13 =>
      intro u a w' ev hJ hd K hK
      have e67 : a.tmps.getD 67 undef = .pointer (some ⟨g2, i, none⟩) := (ev 67 (by decide)).trans (hd 12 _ (by kernel_rfl) rfl)
      obtain ⟨⟨y, hy⟩, hf, hj⟩ := JST.out w' hJ
      have HK := Lib.hid hK
      clear hK ev hd
      go_simp
      exact HK.out _ _ (fun h => rfl) hj.1 hj.2 (fun _ => hj.2)
  case fin =>
    intro u w7 hJ hG
    have h65 : u 65 = .slice (some ⟨g3, 0, none⟩) n k3 := hG 10 _ rfl
    have h66 : u 66 = .int .i64 i := hG 11 _ rfl
    have hnew : OWn w7 := hG 13 _ rfl
    rw [HON.out] at hnew
    have O27 := Lib.hid hnew
    have hz7 : w7.heap.size = w4.heap.size := hJ.2.1
    have hk7 : ∀ q, q ≠ g2 → w7.heap[q]? = w4.heap[q]? := hJ.1
    have K7 : Hid (KeptA g1 g2 g3 g4 w w7) := Lib.hid (K4.out.step (by omega) hJ.2.2.1.1 hJ.2.2.1.2.1 hJ.2.2.1.2.2 fun q hq h1 h2 h3 h4 => hk7 q (by omega))
    replace c0 : w7.cell? ⟨b, 0, none⟩ = some (.int .i64 seg) := (World.cell?_of_block (a := ⟨b, 0, none⟩) (hk7 b (by omega))).trans c0
    replace c1 : w7.cell? ⟨b, 1, none⟩ = some (.slice (some ⟨g1, 0, none⟩) lw k1) := (World.cell?_of_block (a := ⟨b, 1, none⟩) (hk7 b (by omega))).trans c1
    replace c2 : w7.cell? ⟨b, 2, none⟩ = some (.slice (some ⟨g2, 0, none⟩) n k2) := (World.cell?_of_block (a := ⟨b, 2, none⟩) (hk7 b (by omega))).trans c2
    replace c3 : w7.cell? ⟨b, 3, none⟩ = some (.slice (some ⟨g3, 0, none⟩) n k3) := (World.cell?_of_block (a := ⟨b, 3, none⟩) (hk7 b (by omega))).trans c3
    replace c4 : w7.cell? ⟨b, 4, none⟩ = some (.slice (some ⟨g4, 0, none⟩) lc k4) := (World.cell?_of_block (a := ⟨b, 4, none⟩) (hk7 b (by omega))).trans c4
    replace c5 : w7.cell? ⟨b, 5, none⟩ = some (.int .u64 laid) := (World.cell?_of_block (a := ⟨b, 5, none⟩) (hk7 b (by omega))).trans c5
    replace d3 : w7.cell? ⟨g3, i, none⟩ = some (.int .i64 vx) := (World.cell?_of_block (a := ⟨g3, i, none⟩) (hk7 g3 (by omega))).trans d3
    replace d4 : w7.cell? ⟨g4, s, none⟩ = some (.int .i64 nx) := (World.cell?_of_block (a := ⟨g4, s, none⟩) (hk7 g4 (by omega))).trans d4
    replace f1 : w7.frozen? ⟨g1, qi, none⟩ = false := (frozen_of_block (hk7 g1 (by omega)) _).trans f1
    replace f3 : w7.frozen? ⟨g3, i, none⟩ = false := (frozen_of_block (hk7 g3 (by omega)) _).trans f3
    replace f4 : w7.frozen? ⟨g4, s, none⟩ = false := (frozen_of_block (hk7 g4 (by omega)) _).trans f4
    replace f5 : w7.frozen? ⟨b, 5, none⟩ = false := (frozen_of_block (hk7 b (by omega)) _).trans f5
    replace r0 := (World.cell?_of_block (a := ⟨w.heap.size, 0, none⟩) (hk7 w.heap.size (by omega))).trans r0
    replace p0 := (frozen_of_block (hk7 w.heap.size (by omega)) 0).trans p0
    replace r1 := (World.cell?_of_block (a := ⟨w.heap.size, 1, none⟩) (hk7 w.heap.size (by omega))).trans r1
    replace p1 := (frozen_of_block (hk7 w.heap.size (by omega)) 1).trans p1
    replace O1 := Lib.hid (owns_heap (W' := w7) O1.out fun j hj => by cases hj; exact hk7 g1 (by omega))
    replace O3 := Lib.hid (owns_heap (W' := w7) O3.out fun j hj => by cases hj; exact hk7 g3 (by omega))
    replace O4 := Lib.hid (owns_heap (W' := w7) O4.out fun j hj => by cases hj; exact hk7 g4 (by omega))
    clear hG hJ hnew hk7 JIN JST K4 O2 HON
    simp only [mixFrame, mixL, dstsOf, List.take_succ_cons, List.take_zero, List.filterMap_cons, List.filterMap_nil, List.contains_cons, List.contains_nil, Nat.reduceBEq, Bool.or_false, Bool.false_or, Bool.or_true, Bool.true_or, if_true, if_false, Bool.false_eq_true, Nat.reduceAdd, Nat.zero_add, List.drop_succ_cons, List.drop_zero, h65, h66]
    go_wp2
    have hkE : ∀ q, q ≠ g3 → q ≠ w.heap.size → (((w7.setCell ⟨g3, i, none⟩ (.int .i64 0)).setCell ⟨w.heap.size, 0, none⟩ (.int .i64 kx)).setCell ⟨w.heap.size, 1, none⟩ (.int .i64 vx)).heap[q]? = w7.heap[q]? := fun q h1 h2 => by rw [heap_setCell_ne _ _ _ h2, heap_setCell_ne _ _ _ h2, heap_setCell_ne _ _ _ h1]
    have hkR : ∀ q, q ≠ w.heap.size → (((w7.setCell ⟨g3, i, none⟩ (.int .i64 0)).setCell ⟨w.heap.size, 0, none⟩ (.int .i64 kx)).setCell ⟨w.heap.size, 1, none⟩ (.int .i64 vx)).heap[q]? = (w7.setCell ⟨g3, i, none⟩ (.int .i64 0)).heap[q]? := fun q h2 => by rw [heap_setCell_ne _ _ _ h2, heap_setCell_ne _ _ _ h2]
    refine bodyPost_ret (results_c rfl rfl (run_loadVar_two Try.underlying52 rfl (by kernel_rfl) (v := .int .i64 kx) (u := .int .i64 vx) (set_keep (by simp) (World.cell?_setCell_same _ _ _ (set_keep (by simp <;> omega) r0))) (World.cell?_setCell_same _ _ _ (set_keep (by simp) (set_keep (by simp <;> omega) r1))))) rfl ⟨rfl, ?_, ?_⟩
    · refine ⟨?_, ?_, ?_, ?_, ?_, ?_, ?_, ?_, ?_, ?_, ?_⟩
      · exact (World.cell?_of_block (a := ⟨b, 0, none⟩) (hkE b (by omega) (by omega))).trans c0
      · exact (World.cell?_of_block (a := ⟨b, 1, none⟩) (hkE b (by omega) (by omega))).trans c1
      · exact (World.cell?_of_block (a := ⟨b, 2, none⟩) (hkE b (by omega) (by omega))).trans c2
      · exact (World.cell?_of_block (a := ⟨b, 3, none⟩) (hkE b (by omega) (by omega))).trans c3
      · exact (World.cell?_of_block (a := ⟨b, 4, none⟩) (hkE b (by omega) (by omega))).trans c4
      · exact (World.cell?_of_block (a := ⟨b, 5, none⟩) (hkE b (by omega) (by omega))).trans c5
      · exact (frozen_of_block (hkE b (by omega) (by omega)) 5).trans f5
      · exact owns_heap O1.out fun j hj => by cases hj; exact hkE g1 (by omega) (by omega)
      · exact owns_heap O27.out fun j hj => by cases hj; exact hkE g2 (by omega) (by omega)
      · exact owns_heap (own_set O3.out i 0) fun j hj => by cases hj; exact hkR g3 (by omega)
      · exact owns_heap O4.out fun j hj => by cases hj; exact hkE g4 (by omega) (by omega)
    · exact K7.out.step (by simp) rfl rfl rfl fun q hq h1 h2 h3 h4 => hkE q h3 (by omega)
end

section
open Go.RowKit

set_option maxHeartbeats 1000000 in
/-- is, by the word's cell alone -/
theorem is_cell (b g1 lw k1 i q r : Nat) (x : Int) (hx0 : 0 ≤ x) (hx1 : x < 18446744073709551616) (hqI : (i : Int) / 64 = q) (hrI : (i : Int) % 64 = r) (hr64 : r < 64) (hi : q < lw) (hlw : lw ≤ 65536) (hi2 : i ≤ 65536) (bt : Bool) (hbt : bitI x r = bt) (w : World) (c1 : w.cell? ⟨b, 1, none⟩ = some (.slice (some ⟨g1, 0, none⟩) lw k1)) (hc : w.cell? ⟨g1, q, none⟩ = some (.int .u64 x)) :
    Calls Try.prog 88 #[.pointer (some ⟨b, 0, none⟩), .int .i64 i] w fun e w' => e = .returned (.bool bt) ∧ w = w' := by
  have hand := bitI_and hx0 hx1 r
  rw [hbt] at hand
  clear hbt
  cases bt with
  | true =>
    rw [if_pos rfl] at hand
    go_enter Try.func88, Try.ntmps88
    go_wp2
    go_ret
    exact ⟨rfl, rfl⟩
  | false =>
    rw [if_neg (by decide)] at hand
    go_enter Try.func88, Try.ntmps88
    go_wp2
    go_ret
    exact ⟨rfl, rfl⟩

/-- a word without a bit, with a bit -/
def clrX (x : Int) (r : Nat) : Int := bits BinOp.andNot IntKind.u64 x (IntKind.u64.wrap (2 ^ r))
def setX (x : Int) (r : Nat) : Int := bits BinOp.or IntKind.u64 x (IntKind.u64.wrap (2 ^ r))
def clrL (ws : List Int) (i : Nat) : List Int := ws.set (i / 64) (clrX (ws.getD (i / 64) 0) (i % 64))
def setL (ws : List Int) (i : Nat) : List Int := ws.set (i / 64) (setX (ws.getD (i / 64) 0) (i % 64))
/-- the blocks of a gapped array, each its own -/
structure ArrNe (b g1 g2 g3 g4 : Nat) : Prop where
  n1 : g1 ≠ b
  n2 : g2 ≠ b
  n3 : g3 ≠ b
  n4 : g4 ≠ b
  n12 : g1 ≠ g2
  n13 : g1 ≠ g3
  n14 : g1 ≠ g4
  n23 : g2 ≠ g3
  n24 : g2 ≠ g4
  n34 : g3 ≠ g4
theorem slTake_ok (w : World) (B b g1 g2 g3 g4 k1 k2 k3 k4 lw n lc i S : Nat) (seg laid : Int) (ws ks vs cs : List Int) (h : ArrOn B w b g1 g2 g3 g4 k1 k2 k3 k4 lw n lc seg laid ws ks vs cs) (hne : ArrNe b g1 g2 g3 g4) (hu : U64s ws) (hin : i < n) (hn : n ≤ 65536) (hq : i / 64 < lw) (hlw : lw ≤ 65536) (hS : seg = S) (hS4 : 4 ≤ S) (hs : i / S < lc) (hlc : lc ≤ 65536) (hcs : ∀ k, 0 ≤ cs.getD k 0 ∧ cs.getD k 0 ≤ 65536) :
    Calls Try.prog 67 #[.pointer (some ⟨b, 0, none⟩), .int .i64 i] w fun e W => e = .returned (.agg #[.int .i64 (ks.getD i 0), .int .i64 (vs.getD i 0)]) ∧
      ArrOn B W b g1 g2 g3 g4 k1 k2 k3 k4 lw n lc seg laid (clrL ws i) (ks.set i 0) (vs.set i 0) (if bitW ws i = true then cs.set (i / S) (cs.getD (i / S) 0 - 1) else cs) ∧ KeptA g1 g2 g3 g4 w W := by
  have hl1 := own_len h.o1
  have hl2 := own_len h.o2
  have hl3 := own_len h.o3
  have hl4 := own_len h.o4
  obtain ⟨d1, f1⟩ := own_cell h.o1 (j := i / 64) (by omega)
  obtain ⟨d2, f2⟩ := own_cell h.o2 (j := i) (by omega)
  obtain ⟨d3, f3⟩ := own_cell h.o3 (j := i) (by omega)
  obtain ⟨d4, f4⟩ := own_cell h.o4 (j := i / S) (by omega)
  have hx := hu.get (i / 64)
  have hy := hcs (i / S)
  have hsI : (i : Int) / seg = (i / S : Nat) := by rw [hS]; push_cast; rfl
  have hrT : (i : Int).tmod 64 = (i % 64 : Nat) := by rw [Int.tmod_eq_emod_of_nonneg (by omega)]; omega
  by_cases hb : bitW ws i = true
  · rw [if_pos hb]
    exact slTake_set w B b g1 g2 g3 g4 k1 k2 k3 k4 lw n lc i (i / 64) (i % 64) (i / S) seg _ _ _ _ laid ws ks vs cs h.c0 h.c1 h.c2 h.c3 h.c4 h.c5 h.f5 (Lib.hid h.o1) (Lib.hid h.o2) (Lib.hid h.o3) (Lib.hid h.o4) d1 d2 d3 d4 f1 f2 f3 f4 hin hn (by omega) (by omega) hrT (by omega) hq hs hsI (by simp; omega) (by omega) (by omega) hlc hlw hne.n1 hne.n2 hne.n3 hne.n4 hne.n12 hne.n13 hne.n14 hne.n23 hne.n24 hne.n34 hy.1 hy.2
      (Lib.hid fun W c1 hc => is_cell b g1 lw k1 i (i / 64) (i % 64) _ hx.1 hx.2 (by omega) (by omega) (by omega) hq hlw (by omega) true hb W c1 hc) trivial
  · have hb' : bitW ws i = false := by simpa using hb
    rw [if_neg hb]
    exact slTake_clr w B b g1 g2 g3 g4 k1 k2 k3 k4 lw n lc i (i / 64) (i % 64) (i / S) seg _ _ _ _ laid ws ks vs cs h.c0 h.c1 h.c2 h.c3 h.c4 h.c5 h.f5 (Lib.hid h.o1) (Lib.hid h.o2) (Lib.hid h.o3) (Lib.hid h.o4) d1 d2 d3 d4 f1 f2 f3 f4 hin hn (by omega) (by omega) hrT (by omega) hq hs hsI (by simp; omega) (by omega) (by omega) hlc hlw hne.n1 hne.n2 hne.n3 hne.n4 hne.n12 hne.n13 hne.n14 hne.n23 hne.n24 hne.n34 hy.1 hy.2
      (Lib.hid fun W c1 hc => is_cell b g1 lw k1 i (i / 64) (i % 64) _ hx.1 hx.2 (by omega) (by omega) (by omega) hq hlw (by omega) false hb' W c1 hc) trivial
end

section
open Go.RowKit Go.Shelf
attribute [local go_sem] Oper.semAt_some

/-- but for five blocks all that was there stays -/
structure Kept5 (b g1 g2 g3 g4 : Nat) (w W : World) : Prop where
  os : W.os = w.os
  tape : W.tape = w.tape
  output : W.output = w.output
  size : w.heap.size ≤ W.heap.size
  block : ∀ q, q < w.heap.size → q ≠ b → q ≠ g1 → q ≠ g2 → q ≠ g3 → q ≠ g4 → W.heap[q]? = w.heap[q]?
theorem Kept5.of {b g1 g2 g3 g4 : Nat} {w W W' : World} (h : Below w.heap.size w W) (k : KeptA g1 g2 g3 g4 W W') : Kept5 b g1 g2 g3 g4 w W' :=
  ⟨k.os.trans h.os, k.tape.trans h.tape, k.output.trans h.output, Nat.le_trans h.size k.size, fun q hq _ h1 h2 h3 h4 => (k.block q (Nat.lt_of_lt_of_le hq h.size) h1 h2 h3 h4).trans (h.block q hq)⟩
theorem Kept5.step {b g1 g2 g3 g4 : Nat} {w W W' : World} (h : Kept5 b g1 g2 g3 g4 w W) (h0 : W'.heap.size = W.heap.size) (h1 : W'.os = W.os) (h2 : W'.tape = W.tape) (h3 : W'.output = W.output) (hb : ∀ q, q < w.heap.size → q ≠ b → q ≠ g1 → q ≠ g2 → q ≠ g3 → q ≠ g4 → W'.heap[q]? = W.heap[q]?) : Kept5 b g1 g2 g3 g4 w W' :=
  ⟨h1.trans h.os, h2.trans h.tape, h3.trans h.output, by rw [h0]; exact h.size, fun q hq z a b c d => (hb q hq z a b c d).trans (h.block q hq z a b c d)⟩

set_option maxRecDepth 100000 in
set_option maxHeartbeats 2000000 in
theorem slLay_core (w : World) (B b g1 g2 g3 g4 k1 k2 k3 k4 lw n lc i qi r s : Nat) (seg x nx : Int) (laid key val : Int) (ws ks vs cs : List Int) (y0 : b < w.heap.size) (y1 : g1 < w.heap.size) (y2 : g2 < w.heap.size) (y3 : g3 < w.heap.size) (y4 : g4 < w.heap.size)
    (hin : i < n) (hn : n ≤ 65536) (hqI : (i : Int) / 64 = qi) (hrI : (i : Int) % 64 = r) (hrT : (i : Int).tmod 64 = r) (hr : r < 64) (hqi : qi < lw) (hs : s < lc) (hsI : (i : Int) / seg = s) (hsg : (seg == 0) = false) (hsg2 : ¬ seg = 0) (hsg3 : 4 ≤ seg) (hlc : lc ≤ 65536) (hlw : lw ≤ 65536)
    (n1 : g1 ≠ b) (n2 : g2 ≠ b) (n3 : g3 ≠ b) (n4 : g4 ≠ b) (n12 : g1 ≠ g2) (n13 : g1 ≠ g3) (n14 : g1 ≠ g4) (n23 : g2 ≠ g3) (n24 : g2 ≠ g4) (n34 : g3 ≠ g4) (hx : ws.getD qi 0 = x) (hnxx : cs.getD s 0 = nx) (hnx : -1 ≤ nx) (hnx2 : nx ≤ 65536)
    (TK : Hid (∀ W, Below w.heap.size w W → Calls Try.prog 67 #[.pointer (some ⟨b, 0, none⟩), .int .i64 i] W fun e W' => (∃ v, e = .returned v) ∧ ArrOn B W' b g1 g2 g3 g4 k1 k2 k3 k4 lw n lc seg laid ws ks vs cs ∧ KeptA g1 g2 g3 g4 W W')) :
    Calls Try.prog 68 #[.pointer (some ⟨b, 0, none⟩), .int .i64 i, .agg #[.int .i64 key, .int .i64 val]] w fun e W => e = .returned (.tuple #[]) ∧ ArrOn B W b g1 g2 g3 g4 k1 k2 k3 k4 lw n lc seg (IntKind.u64.wrap (laid + 1)) (ws.set qi (bits BinOp.or IntKind.u64 x (IntKind.u64.wrap (2 ^ r)))) (ks.set i key) (vs.set i val) (cs.set s (nx + 1)) ∧ Kept5 b g1 g2 g3 g4 w W := by
  go_enter Try.func68, Try.ntmps68
  go_wp2_with fail
  have hba : Below w.heap.size w (w.alloc (.cells #[.int .i64 key, .int .i64 val] 52)) := (Below.refl _ _).alloc (Nat.le_refl _) _
  have hz1 : (w.alloc (.cells #[.int .i64 key, .int .i64 val] 52)).heap.size = w.heap.size + 1 := by simp
  have r0 : (w.alloc (.cells #[.int .i64 key, .int .i64 val] 52)).cell? ⟨w.heap.size, 0, none⟩ = some (.int .i64 key) := by ((try simp (disch := first | omega | (simp only [szW] <;> omega) | fail) only [ceW]) <;> rfl)
  have r1 : (w.alloc (.cells #[.int .i64 key, .int .i64 val] 52)).cell? ⟨w.heap.size, 1, none⟩ = some (.int .i64 val) := by ((try simp (disch := first | omega | (simp only [szW] <;> omega) | fail) only [ceW]) <;> rfl)
  generalize (w.alloc (.cells #[.int .i64 key, .int .i64 val] 52)) = w1 at *
  refine (TK.out w1 hba).mono ?_
  rintro e w2 ⟨⟨rv, rfl⟩, ⟨c0, c1, c2, c3, c4, c5, f5, o1, o2, o3, o4⟩, KA⟩
  have hz2 := KA.size
  have K2 : Hid (Kept5 b g1 g2 g3 g4 w w2) := Lib.hid (Kept5.of hba KA)
  replace r0 := (World.cell?_of_block (a := ⟨w.heap.size, 0, none⟩) (KA.block w.heap.size (by omega) (by omega) (by omega) (by omega) (by omega))).trans r0
  replace r1 := (World.cell?_of_block (a := ⟨w.heap.size, 1, none⟩) (KA.block w.heap.size (by omega) (by omega) (by omega) (by omega) (by omega))).trans r1
  obtain ⟨d1, f1⟩ := own_cell o1 (j := qi) (by have := own_len o1; omega)
  obtain ⟨d2, f2⟩ := own_cell o2 (j := i) (by have := own_len o2; omega)
  obtain ⟨d3, f3⟩ := own_cell o3 (j := i) (by have := own_len o3; omega)
  obtain ⟨d4, f4⟩ := own_cell o4 (j := s) (by have := own_len o4; omega)
  rw [hx] at d1
  rw [hnxx] at d4
  generalize ks.getD i 0 = kx at d2
  generalize vs.getD i 0 = vx at d3
  have O1 := Lib.hid o1
  have O2 := Lib.hid o2
  have O3 := Lib.hid o3
  have O4 := Lib.hid o4
  have HX := Lib.hid hx
  have HNX := Lib.hid hnxx
  clear o1 o2 o3 o4 KA hba hx hnxx
  have hiI : (i : Int) < n := by omega
  have hqI2 : (qi : Int) < lw := by omega
  have hsI2 : (s : Int) < lc := by omega
  have hws : IntKind.i64.wrap (s : Int) = (s : Int) := IntWalk.i64_in _ (by omega)
  have hwq : IntKind.i64.wrap (qi : Int) = (qi : Int) := IntWalk.i64_in _ (by omega)
  have hwr : IntKind.i64.wrap (r : Int) = (r : Int) := IntWalk.i64_in _ (by omega)
  have hwn : IntKind.i64.wrap (nx + 1) = nx + 1 := IntWalk.i64_in _ (by omega)
  go_wp2
  go_still_tail 15, (by kernel_rfl)
  go_wp2
  have hk_w3 : ∀ q, q ≠ g4 → ((w2.setCell ⟨g4, s, none⟩ (.int .i64 (nx + 1))).drew).heap[q]? = w2.heap[q]? := fun q hq => heap_setCell_ne _ _ _ hq
  have hf_w3 : ∀ a : Addr, ((w2.setCell ⟨g4, s, none⟩ (.int .i64 (nx + 1))).drew).frozen? a = w2.frozen? a := fun a => by rw [World.frozen?_drew, World.frozen?_setCell]
  have K3 : Hid (Kept5 b g1 g2 g3 g4 w ((w2.setCell ⟨g4, s, none⟩ (.int .i64 (nx + 1))).drew)) := Lib.hid (K2.out.step (by simp) rfl rfl rfl fun q hq h0 h1 h2 h3 h4 => hk_w3 q (by omega))
  have hz_w3 : ((w2.setCell ⟨g4, s, none⟩ (.int .i64 (nx + 1))).drew).heap.size = w2.heap.size := by simp
  have nO4 : Hid (((w2.setCell ⟨g4, s, none⟩ (.int .i64 (nx + 1))).drew).ownsRow B 3 1 (.slice (some ⟨g4, 0, none⟩) lc k4) lc ((cs.set s (nx + 1)).map (Value.int .i64))) := Lib.hid (owns_drew (own_set O4.out s (nx + 1)))
  generalize ((w2.setCell ⟨g4, s, none⟩ (.int .i64 (nx + 1))).drew) = w3 at *
  clear d4
  replace c0 : w3.cell? ⟨b, 0, none⟩ = some (.int .i64 seg) := (World.cell?_of_block (a := ⟨b, 0, none⟩) (hk_w3 b (by omega))).trans c0
  replace c1 : w3.cell? ⟨b, 1, none⟩ = some (.slice (some ⟨g1, 0, none⟩) lw k1) := (World.cell?_of_block (a := ⟨b, 1, none⟩) (hk_w3 b (by omega))).trans c1
  replace c2 : w3.cell? ⟨b, 2, none⟩ = some (.slice (some ⟨g2, 0, none⟩) n k2) := (World.cell?_of_block (a := ⟨b, 2, none⟩) (hk_w3 b (by omega))).trans c2
  replace c3 : w3.cell? ⟨b, 3, none⟩ = some (.slice (some ⟨g3, 0, none⟩) n k3) := (World.cell?_of_block (a := ⟨b, 3, none⟩) (hk_w3 b (by omega))).trans c3
  replace c4 : w3.cell? ⟨b, 4, none⟩ = some (.slice (some ⟨g4, 0, none⟩) lc k4) := (World.cell?_of_block (a := ⟨b, 4, none⟩) (hk_w3 b (by omega))).trans c4
  replace c5 : w3.cell? ⟨b, 5, none⟩ = some (.int .u64 laid) := (World.cell?_of_block (a := ⟨b, 5, none⟩) (hk_w3 b (by omega))).trans c5
  replace d1 : w3.cell? ⟨g1, qi, none⟩ = some (.int .u64 x) := (World.cell?_of_block (a := ⟨g1, qi, none⟩) (hk_w3 g1 (by omega))).trans d1
  replace d2 : w3.cell? ⟨g2, i, none⟩ = some (.int .i64 kx) := (World.cell?_of_block (a := ⟨g2, i, none⟩) (hk_w3 g2 (by omega))).trans d2
  replace d3 : w3.cell? ⟨g3, i, none⟩ = some (.int .i64 vx) := (World.cell?_of_block (a := ⟨g3, i, none⟩) (hk_w3 g3 (by omega))).trans d3
  replace f1 : w3.frozen? ⟨g1, qi, none⟩ = false := (hf_w3 _).trans f1
  replace f2 : w3.frozen? ⟨g2, i, none⟩ = false := (hf_w3 _).trans f2
  replace f3 : w3.frozen? ⟨g3, i, none⟩ = false := (hf_w3 _).trans f3
  replace f4 : w3.frozen? ⟨g4, s, none⟩ = false := (hf_w3 _).trans f4
  replace f5 : w3.frozen? ⟨b, 5, none⟩ = false := (hf_w3 _).trans f5
  replace r0 := (World.cell?_of_block (a := ⟨w.heap.size, 0, none⟩) (hk_w3 w.heap.size (by omega))).trans r0
  replace r1 := (World.cell?_of_block (a := ⟨w.heap.size, 1, none⟩) (hk_w3 w.heap.size (by omega))).trans r1
  replace O1 := Lib.hid (owns_heap (W' := w3) O1.out fun j hj => by cases hj; exact hk_w3 g1 (by omega))
  replace O2 := Lib.hid (owns_heap (W' := w3) O2.out fun j hj => by cases hj; exact hk_w3 g2 (by omega))
  replace O3 := Lib.hid (owns_heap (W' := w3) O3.out fun j hj => by cases hj; exact hk_w3 g3 (by omega))
  replace O4 := nO4
  clear nO4 hk_w3 hf_w3 K2
  go_still_tail 13, (by kernel_rfl)
  go_wp2
  have hk_w4 : ∀ q, q ≠ g1 → ((w3.setCell ⟨g1, qi, none⟩ (.int .u64 (bits BinOp.or IntKind.u64 x (IntKind.u64.wrap (2 ^ r))))).drew).heap[q]? = w3.heap[q]? := fun q hq => heap_setCell_ne _ _ _ hq
  have hf_w4 : ∀ a : Addr, ((w3.setCell ⟨g1, qi, none⟩ (.int .u64 (bits BinOp.or IntKind.u64 x (IntKind.u64.wrap (2 ^ r))))).drew).frozen? a = w3.frozen? a := fun a => by rw [World.frozen?_drew, World.frozen?_setCell]
  have K4 : Hid (Kept5 b g1 g2 g3 g4 w ((w3.setCell ⟨g1, qi, none⟩ (.int .u64 (bits BinOp.or IntKind.u64 x (IntKind.u64.wrap (2 ^ r))))).drew)) := Lib.hid (K3.out.step (by simp) rfl rfl rfl fun q hq h0 h1 h2 h3 h4 => hk_w4 q (by omega))
  have hz_w4 : ((w3.setCell ⟨g1, qi, none⟩ (.int .u64 (bits BinOp.or IntKind.u64 x (IntKind.u64.wrap (2 ^ r))))).drew).heap.size = w3.heap.size := by simp
  have nO1 : Hid (((w3.setCell ⟨g1, qi, none⟩ (.int .u64 (bits BinOp.or IntKind.u64 x (IntKind.u64.wrap (2 ^ r))))).drew).ownsRow B 27 1 (.slice (some ⟨g1, 0, none⟩) lw k1) lw ((ws.set qi (bits BinOp.or IntKind.u64 x (IntKind.u64.wrap (2 ^ r)))).map (Value.int .u64))) := Lib.hid (owns_drew (own_set O1.out qi (bits BinOp.or IntKind.u64 x (IntKind.u64.wrap (2 ^ r)))))
  generalize ((w3.setCell ⟨g1, qi, none⟩ (.int .u64 (bits BinOp.or IntKind.u64 x (IntKind.u64.wrap (2 ^ r))))).drew) = w4 at *
  clear d1
  replace c0 : w4.cell? ⟨b, 0, none⟩ = some (.int .i64 seg) := (World.cell?_of_block (a := ⟨b, 0, none⟩) (hk_w4 b (by omega))).trans c0
  replace c1 : w4.cell? ⟨b, 1, none⟩ = some (.slice (some ⟨g1, 0, none⟩) lw k1) := (World.cell?_of_block (a := ⟨b, 1, none⟩) (hk_w4 b (by omega))).trans c1
  replace c2 : w4.cell? ⟨b, 2, none⟩ = some (.slice (some ⟨g2, 0, none⟩) n k2) := (World.cell?_of_block (a := ⟨b, 2, none⟩) (hk_w4 b (by omega))).trans c2
  replace c3 : w4.cell? ⟨b, 3, none⟩ = some (.slice (some ⟨g3, 0, none⟩) n k3) := (World.cell?_of_block (a := ⟨b, 3, none⟩) (hk_w4 b (by omega))).trans c3
  replace c4 : w4.cell? ⟨b, 4, none⟩ = some (.slice (some ⟨g4, 0, none⟩) lc k4) := (World.cell?_of_block (a := ⟨b, 4, none⟩) (hk_w4 b (by omega))).trans c4
  replace c5 : w4.cell? ⟨b, 5, none⟩ = some (.int .u64 laid) := (World.cell?_of_block (a := ⟨b, 5, none⟩) (hk_w4 b (by omega))).trans c5
  replace d2 : w4.cell? ⟨g2, i, none⟩ = some (.int .i64 kx) := (World.cell?_of_block (a := ⟨g2, i, none⟩) (hk_w4 g2 (by omega))).trans d2
  replace d3 : w4.cell? ⟨g3, i, none⟩ = some (.int .i64 vx) := (World.cell?_of_block (a := ⟨g3, i, none⟩) (hk_w4 g3 (by omega))).trans d3
  replace f1 : w4.frozen? ⟨g1, qi, none⟩ = false := (hf_w4 _).trans f1
  replace f2 : w4.frozen? ⟨g2, i, none⟩ = false := (hf_w4 _).trans f2
  replace f3 : w4.frozen? ⟨g3, i, none⟩ = false := (hf_w4 _).trans f3
  replace f4 : w4.frozen? ⟨g4, s, none⟩ = false := (hf_w4 _).trans f4
  replace f5 : w4.frozen? ⟨b, 5, none⟩ = false := (hf_w4 _).trans f5
  replace r0 := (World.cell?_of_block (a := ⟨w.heap.size, 0, none⟩) (hk_w4 w.heap.size (by omega))).trans r0
  replace r1 := (World.cell?_of_block (a := ⟨w.heap.size, 1, none⟩) (hk_w4 w.heap.size (by omega))).trans r1
  replace O2 := Lib.hid (owns_heap (W' := w4) O2.out fun j hj => by cases hj; exact hk_w4 g2 (by omega))
  replace O3 := Lib.hid (owns_heap (W' := w4) O3.out fun j hj => by cases hj; exact hk_w4 g3 (by omega))
  replace O4 := Lib.hid (owns_heap (W' := w4) O4.out fun j hj => by cases hj; exact hk_w4 g4 (by omega))
  replace O1 := nO1
  clear nO1 hk_w4 hf_w4 K3
  obtain ⟨OWo, hOo⟩ : ∃ P : World → Prop, P = fun W => W.ownsRow B 2 1 (.slice (some ⟨g2, 0, none⟩) n k2) n ((ks).map (Value.int .i64)) := ⟨_, rfl⟩
  obtain ⟨OWn, hOn⟩ : ∃ P : World → Prop, P = fun W => W.ownsRow B 2 1 (.slice (some ⟨g2, 0, none⟩) n k2) n ((ks.set i key).map (Value.int .i64)) := ⟨_, rfl⟩
  have JIN : Hid (JB g2 w4.drew OWo OWn w4.drew) := Lib.hid ⟨fun _ _ => rfl, rfl, ⟨rfl, rfl, rfl⟩, .inl (by rw [hOo]; exact owns_drew O2.out)⟩
  have hkl : ks.length = n := own_len O2.out
  have JST : Hid (∀ w', JB g2 w4.drew OWo OWn w' → (∃ y, w'.cell? ⟨g2, i, none⟩ = some (.int .i64 y)) ∧ w'.frozen? ⟨g2, i, none⟩ = false ∧ JB g2 w4.drew OWo OWn (w'.setCell ⟨g2, i, none⟩ (.int .i64 key)) ∧ OWn (w'.setCell ⟨g2, i, none⟩ (.int .i64 key))) := Lib.hid (by
    rintro w' ⟨j1, j2, j4, j3⟩
    have keyy : (∃ y, w'.cell? ⟨g2, i, none⟩ = some (.int .i64 y)) ∧ w'.frozen? ⟨g2, i, none⟩ = false ∧ OWn (w'.setCell ⟨g2, i, none⟩ (.int .i64 key)) := by
      rcases j3 with j3 | j3
      · rw [hOo] at j3
        obtain ⟨y0, y1⟩ := own_cell j3 (j := i) (by omega)
        have y2 := own_set j3 i key
        rw [hOn]
        exact ⟨⟨_, y0⟩, y1, y2⟩
      · rw [hOn] at j3
        obtain ⟨y0, y1⟩ := own_cell j3 (j := i) (by rw [List.length_set]; omega)
        have y2 := own_set j3 i key
        rw [List.set_set] at y2
        rw [hOn]
        exact ⟨⟨_, y0⟩, y1, y2⟩
    exact ⟨keyy.1, keyy.2.1, ⟨fun q hq => (heap_setCell_ne _ _ _ hq).trans (j1 q hq), by rw [World.size_setCell]; exact j2, j4, .inr keyy.2.2⟩, keyy.2.2⟩)
  have HON := Lib.hid hOn
  clear hOo hOn d2 f2
  refine wp_region_late 18 (by kernel_rfl) (N := 66) rfl (by kernel_rfl) (by kernel_rfl) (by decide) (fun w' => JB g2 w4.drew OWo OWn w') (fun W W' => OWn W → OWn W') (factRAt [.is (.pointer (some ⟨b, 0, none⟩)), .is (.pointer (some ⟨b, 0, none⟩)), .is (.pointer (some ⟨b, 0, none⟩)), .is (.pointer (some ⟨b, 2, none⟩)), .is (.slice (some ⟨g2, 0, none⟩) n k2), .is (.int .i64 i), .is (.pointer (some ⟨b, 0, none⟩)), .is (.pointer (some ⟨b, 0, none⟩)), .is (.pointer (some ⟨b, 0, none⟩)), .is (.pointer (some ⟨b, 3, none⟩)), .is (.slice (some ⟨g3, 0, none⟩) n k3), .is (.int .i64 i), .is (.pointer (some ⟨w.heap.size, 0, none⟩)), .is (.int .i64 key), .is (.pointer (some ⟨w.heap.size, 1, none⟩)), .is (.int .i64 val), .is (.pointer (some ⟨g2, i, none⟩)), .now OWn (fun _ _ h k => h k)]) (factRAt_stays _) JIN.out ?steps ?fin
  case steps =>
    refine ⟨?o0, ?o1, ?o2, ?o3, ?o4, ?o5, ?o6, ?o7, ?o8, ?o9, ?o10, ?o11, ?o12, ?o13, ?o14, ?o15, ?o16, ?o17, trivial⟩
    case o0 =>
      intro u a w' ev hJ hd K hK
      have e0 : a.tmps.getD 0 undef = .pointer (some ⟨b, 0, none⟩) := ev 0 (by decide)
      have HK := Lib.hid hK
      clear hK ev hd
      go_simp
      exact HK.out _ _ (fun h => by cases h) hJ rfl id
    case o1 =>
      intro u a w' ev hJ hd K hK
      have e39 : a.tmps.getD 39 undef = .pointer (some ⟨b, 0, none⟩) := (ev 39 (by decide)).trans (hd 0 _ (by kernel_rfl) rfl)
      have HK := Lib.hid hK
      clear hK ev hd
      go_simp
      exact HK.out _ _ (fun h => by cases h) hJ rfl id
    case o2 =>
      intro u a w' ev hJ hd K hK
      have e40 : a.tmps.getD 40 undef = .pointer (some ⟨b, 0, none⟩) := (ev 40 (by decide)).trans (hd 1 _ (by kernel_rfl) rfl)
      have HK := Lib.hid hK
      clear hK ev hd
      go_simp
      exact HK.out _ _ (fun h => by cases h) hJ rfl id
    case o3 =>
      intro u a w' ev hJ hd K hK
      have e41 : a.tmps.getD 41 undef = .pointer (some ⟨b, 0, none⟩) := (ev 41 (by decide)).trans (hd 2 _ (by kernel_rfl) rfl)
      have HK := Lib.hid hK
      clear hK ev hd
      go_simp
      exact HK.out _ _ (fun h => by cases h) hJ rfl id
    case o4 =>
      intro u a w' ev hJ hd K hK
      have e42 : a.tmps.getD 42 undef = .pointer (some ⟨b, 2, none⟩) := (ev 42 (by decide)).trans (hd 3 _ (by kernel_rfl) rfl)
      have g0 := (World.cell?_of_block (a := ⟨b, 2, none⟩) (hJ.1 b (by omega))).trans c2
      have HK := Lib.hid hK
      clear hK ev hd
      go_simp
      exact HK.out _ _ (fun h => by cases h) hJ rfl id
    case o5 =>
      intro u a w' ev hJ hd K hK
      have e1 : a.tmps.getD 1 undef = .int .i64 i := ev 1 (by decide)
      have HK := Lib.hid hK
      clear hK ev hd
      go_simp
      exact HK.out _ _ (fun h => by cases h) hJ rfl id
    case o6 =>
      intro u a w' ev hJ hd K hK
      have e0 : a.tmps.getD 0 undef = .pointer (some ⟨b, 0, none⟩) := ev 0 (by decide)
      have HK := Lib.hid hK
      clear hK ev hd
      go_simp
      exact HK.out _ _ (fun h => by cases h) hJ rfl id
    case o7 =>
      intro u a w' ev hJ hd K hK
      have e45 : a.tmps.getD 45 undef = .pointer (some ⟨b, 0, none⟩) := (ev 45 (by decide)).trans (hd 6 _ (by kernel_rfl) rfl)
      have HK := Lib.hid hK
      clear hK ev hd
      go_simp
      exact HK.out _ _ (fun h => by cases h) hJ rfl id
    case o8 =>
      intro u a w' ev hJ hd K hK
      have e46 : a.tmps.getD 46 undef = .pointer (some ⟨b, 0, none⟩) := (ev 46 (by decide)).trans (hd 7 _ (by kernel_rfl) rfl)
      have HK := Lib.hid hK
      clear hK ev hd
      go_simp
      exact HK.out _ _ (fun h => by cases h) hJ rfl id
    case o9 =>
      intro u a w' ev hJ hd K hK
      have e47 : a.tmps.getD 47 undef = .pointer (some ⟨b, 0, none⟩) := (ev 47 (by decide)).trans (hd 8 _ (by kernel_rfl) rfl)
      have HK := Lib.hid hK
      clear hK ev hd
      go_simp
      exact HK.out _ _ (fun h => by cases h) hJ rfl id
    case o10 =>
      intro u a w' ev hJ hd K hK
      have e48 : a.tmps.getD 48 undef = .pointer (some ⟨b, 3, none⟩) := (ev 48 (by decide)).trans (hd 9 _ (by kernel_rfl) rfl)
      have g0 := (World.cell?_of_block (a := ⟨b, 3, none⟩) (hJ.1 b (by omega))).trans c3
      have HK := Lib.hid hK
      clear hK ev hd
      go_simp
      exact HK.out _ _ (fun h => by cases h) hJ rfl id
    case o11 =>
      intro u a w' ev hJ hd K hK
      have e1 : a.tmps.getD 1 undef = .int .i64 i := ev 1 (by decide)
      have HK := Lib.hid hK
      clear hK ev hd
      go_simp
      exact HK.out _ _ (fun h => by cases h) hJ rfl id
    case o12 =>
      intro u a w' ev hJ hd K hK
      have e5 : a.tmps.getD 5 undef = .pointer (some ⟨w.heap.size, 0, none⟩) := ev 5 (by decide)
      have HK := Lib.hid hK
      clear hK ev hd
      go_simp
      exact HK.out _ _ (fun h => by cases h) hJ rfl id
    case o13 =>
      intro u a w' ev hJ hd K hK
      have e51 : a.tmps.getD 51 undef = .pointer (some ⟨w.heap.size, 0, none⟩) := (ev 51 (by decide)).trans (hd 12 _ (by kernel_rfl) rfl)
      have g0 := (World.cell?_of_block (a := ⟨w.heap.size, 0, none⟩) (hJ.1 w.heap.size (by omega))).trans r0
      have HK := Lib.hid hK
      clear hK ev hd
      go_simp
      exact HK.out _ _ (fun h => by cases h) hJ rfl id
    case o14 =>
      intro u a w' ev hJ hd K hK
      have e5 : a.tmps.getD 5 undef = .pointer (some ⟨w.heap.size, 0, none⟩) := ev 5 (by decide)
      have HK := Lib.hid hK
      clear hK ev hd
      go_simp
      exact HK.out _ _ (fun h => by cases h) hJ rfl id
    case o15 =>
      intro u a w' ev hJ hd K hK
      have e53 : a.tmps.getD 53 undef = .pointer (some ⟨w.heap.size, 1, none⟩) := (ev 53 (by decide)).trans (hd 14 _ (by kernel_rfl) rfl)
      have g0 := (World.cell?_of_block (a := ⟨w.heap.size, 1, none⟩) (hJ.1 w.heap.size (by omega))).trans r1
      have HK := Lib.hid hK
      clear hK ev hd
      go_simp
      exact HK.out _ _ (fun h => by cases h) hJ rfl id
    case o16 =>
      intro u a w' ev hJ hd K hK
      have e43 : a.tmps.getD 43 undef = .slice (some ⟨g2, 0, none⟩) n k2 := (ev 43 (by decide)).trans (hd 4 _ (by kernel_rfl) rfl)
      have e44 : a.tmps.getD 44 undef = .int .i64 i := (ev 44 (by decide)).trans (hd 5 _ (by kernel_rfl) rfl)
      have HK := Lib.hid hK
      clear hK ev hd
      go_simp
      exact HK.out _ _ (fun h => by cases h) hJ rfl id
    case o17 =>
      intro u a w' ev hJ hd K hK
      have e55 : a.tmps.getD 55 undef = .pointer (some ⟨g2, i, none⟩) := (ev 55 (by decide)).trans (hd 16 _ (by kernel_rfl) rfl)
      have e52 : a.tmps.getD 52 undef = .int .i64 key := (ev 52 (by decide)).trans (hd 13 _ (by kernel_rfl) rfl)
      obtain ⟨⟨y, hy⟩, hf, hj⟩ := JST.out w' hJ
      have HK := Lib.hid hK
      clear hK ev hd
      go_simp
      exact HK.out _ _ (fun h => rfl) hj.1 hj.2 (fun _ => hj.2)
  case fin =>
    intro u w7 hJ hG
    have h49 : u 49 = .slice (some ⟨g3, 0, none⟩) n k3 := hG 10 _ rfl
    have h50 : u 50 = .int .i64 i := hG 11 _ rfl
    have h54 : u 54 = .int .i64 val := hG 15 _ rfl
    have hnew : OWn w7 := hG 17 _ rfl
    rw [HON.out] at hnew
    have O27 := Lib.hid hnew
    have hz7 : w7.heap.size = w4.heap.size := hJ.2.1
    have hk7 : ∀ q, q ≠ g2 → w7.heap[q]? = w4.heap[q]? := hJ.1
    have K7 : Hid (Kept5 b g1 g2 g3 g4 w w7) := Lib.hid (K4.out.step (by omega) hJ.2.2.1.1 hJ.2.2.1.2.1 hJ.2.2.1.2.2 fun q hq h0 h1 h2 h3 h4 => hk7 q (by omega))
    replace c0 : w7.cell? ⟨b, 0, none⟩ = some (.int .i64 seg) := (World.cell?_of_block (a := ⟨b, 0, none⟩) (hk7 b (by omega))).trans c0
    replace c1 : w7.cell? ⟨b, 1, none⟩ = some (.slice (some ⟨g1, 0, none⟩) lw k1) := (World.cell?_of_block (a := ⟨b, 1, none⟩) (hk7 b (by omega))).trans c1
    replace c2 : w7.cell? ⟨b, 2, none⟩ = some (.slice (some ⟨g2, 0, none⟩) n k2) := (World.cell?_of_block (a := ⟨b, 2, none⟩) (hk7 b (by omega))).trans c2
    replace c3 : w7.cell? ⟨b, 3, none⟩ = some (.slice (some ⟨g3, 0, none⟩) n k3) := (World.cell?_of_block (a := ⟨b, 3, none⟩) (hk7 b (by omega))).trans c3
    replace c4 : w7.cell? ⟨b, 4, none⟩ = some (.slice (some ⟨g4, 0, none⟩) lc k4) := (World.cell?_of_block (a := ⟨b, 4, none⟩) (hk7 b (by omega))).trans c4
    replace c5 : w7.cell? ⟨b, 5, none⟩ = some (.int .u64 laid) := (World.cell?_of_block (a := ⟨b, 5, none⟩) (hk7 b (by omega))).trans c5
    replace d3 : w7.cell? ⟨g3, i, none⟩ = some (.int .i64 vx) := (World.cell?_of_block (a := ⟨g3, i, none⟩) (hk7 g3 (by omega))).trans d3
    replace f1 : w7.frozen? ⟨g1, qi, none⟩ = false := (frozen_of_block (hk7 g1 (by omega)) _).trans f1
    replace f3 : w7.frozen? ⟨g3, i, none⟩ = false := (frozen_of_block (hk7 g3 (by omega)) _).trans f3
    replace f4 : w7.frozen? ⟨g4, s, none⟩ = false := (frozen_of_block (hk7 g4 (by omega)) _).trans f4
    replace f5 : w7.frozen? ⟨b, 5, none⟩ = false := (frozen_of_block (hk7 b (by omega)) _).trans f5
    replace O1 := Lib.hid (owns_heap (W' := w7) O1.out fun j hj => by cases hj; exact hk7 g1 (by omega))
    replace O3 := Lib.hid (owns_heap (W' := w7) O3.out fun j hj => by cases hj; exact hk7 g3 (by omega))
    replace O4 := Lib.hid (owns_heap (W' := w7) O4.out fun j hj => by cases hj; exact hk7 g4 (by omega))
    clear hG hJ hnew hk7 JIN JST K4 O2 HON
    simp only [mixFrame, mixL, dstsOf, List.take_succ_cons, List.take_zero, List.filterMap_cons, List.filterMap_nil, List.contains_cons, List.contains_nil, Nat.reduceBEq, Bool.or_false, Bool.false_or, Bool.or_true, Bool.true_or, if_true, if_false, Bool.false_eq_true, Nat.reduceAdd, Nat.zero_add, List.drop_succ_cons, List.drop_zero, h49, h50, h54]
    have b5 : (w7.setCell ⟨g3, i, none⟩ (.int .i64 val)).cell? ⟨b, 5, none⟩ = some (.int .u64 laid) := set_keep (by simp <;> omega) c5
    go_wp2
    have hkE : ∀ q, q ≠ g3 → q ≠ b → ((w7.setCell ⟨g3, i, none⟩ (.int .i64 val)).setCell ⟨b, 5, none⟩ (.int .u64 (IntKind.u64.wrap (laid + 1)))).heap[q]? = w7.heap[q]? := fun q h1 h2 => by rw [heap_setCell_ne _ _ _ h2, heap_setCell_ne _ _ _ h1]
    have hkB : ∀ q, q ≠ b → ((w7.setCell ⟨g3, i, none⟩ (.int .i64 val)).setCell ⟨b, 5, none⟩ (.int .u64 (IntKind.u64.wrap (laid + 1)))).heap[q]? = (w7.setCell ⟨g3, i, none⟩ (.int .i64 val)).heap[q]? := fun q h2 => by rw [heap_setCell_ne _ _ _ h2]
    refine bodyPost_end (results_none rfl _ _ _) rfl ⟨rfl, ?_, ?_⟩
    · refine ⟨?_, ?_, ?_, ?_, ?_, ?_, ?_, ?_, ?_, ?_, ?_⟩
      · exact set_keep (by simp) (set_keep (by simp <;> omega) c0)
      · exact set_keep (by simp) (set_keep (by simp <;> omega) c1)
      · exact set_keep (by simp) (set_keep (by simp <;> omega) c2)
      · exact set_keep (by simp) (set_keep (by simp <;> omega) c3)
      · exact set_keep (by simp) (set_keep (by simp <;> omega) c4)
      · exact World.cell?_setCell_same _ _ _ b5
      · rw [World.frozen?_setCell, World.frozen?_setCell]; exact f5
      · exact owns_heap O1.out fun j hj => by cases hj; exact hkE g1 (by omega) (by omega)
      · exact owns_heap O27.out fun j hj => by cases hj; exact hkE g2 (by omega) (by omega)
      · exact owns_heap (own_set O3.out i val) fun j hj => by cases hj; exact hkB g3 (by omega)
      · exact owns_heap O4.out fun j hj => by cases hj; exact hkE g4 (by omega) (by omega)
    · exact K7.out.step (by simp) rfl rfl rfl fun q hq h0 h1 h2 h3 h4 => hkE q h3 h0
end

section
open Go.RowKit

/-- a slot is taken; one is laid -/
def tkC (c : SlC) (i : Nat) : SlC := ⟨c.seg, clrL c.ws i, c.ks.set i 0, c.vs.set i 0, (if bitW c.ws i = true then c.cs.set (i / c.seg.toNat) (c.cs.getD (i / c.seg.toNat) 0 - 1) else c.cs), c.laid⟩
def lyC (c : SlC) (i : Nat) (key val : Int) : SlC := ⟨c.seg, setL (tkC c i).ws i, (tkC c i).ks.set i key, (tkC c i).vs.set i val, (tkC c i).cs.set (i / c.seg.toNat) ((tkC c i).cs.getD (i / c.seg.toNat) 0 + 1), IntKind.u64.wrap (c.laid + 1)⟩
/-- the words are words, the counts are no great ones -/
def okC (c : SlC) : Bool := c.ws.all (fun x => decide (0 ≤ x) && decide (x < 18446744073709551616)) && c.cs.all (fun x => decide (0 ≤ x) && decide (x ≤ 65535))
theorem okC_u {c : SlC} (h : okC c = true) : U64s c.ws := by
  intro x hx
  simp only [okC, Bool.and_eq_true, List.all_eq_true, decide_eq_true_eq] at h
  exact h.1 x hx
theorem okC_n {c : SlC} (h : okC c = true) (k : Nat) : 0 ≤ c.cs.getD k 0 ∧ c.cs.getD k 0 ≤ 65535 := by
  simp only [okC, Bool.and_eq_true, List.all_eq_true, decide_eq_true_eq] at h
  rw [List.getD_eq_getElem?_getD]
  cases hx : c.cs[k]? with
  | none => simp
  | some x => simpa using h.2 x (List.mem_of_getElem? hx)
/-- a gapped array in a box, as one thing -/
def ArrC (B : Nat) (W : World) (b g1 g2 g3 g4 k1 k2 k3 k4 lw n lc : Nat) (c : SlC) : Prop := ArrOn B W b g1 g2 g3 g4 k1 k2 k3 k4 lw n lc c.seg c.laid c.ws c.ks c.vs c.cs
theorem take_ok (w : World) (B b g1 g2 g3 g4 k1 k2 k3 k4 lw n lc i S : Nat) (c : SlC) (h : ArrC B w b g1 g2 g3 g4 k1 k2 k3 k4 lw n lc c) (hne : ArrNe b g1 g2 g3 g4) (hok : okC c = true) (hin : i < n) (hn : n ≤ 65536) (hq : i / 64 < lw) (hlw : lw ≤ 65536) (hS : c.seg = S) (hS4 : 4 ≤ S) (hs : i / S < lc) (hlc : lc ≤ 65536) :
    Calls Try.prog 67 #[.pointer (some ⟨b, 0, none⟩), .int .i64 i] w fun e W => e = .returned (.agg #[.int .i64 (c.ks.getD i 0), .int .i64 (c.vs.getD i 0)]) ∧ ArrC B W b g1 g2 g3 g4 k1 k2 k3 k4 lw n lc (tkC c i) ∧ KeptA g1 g2 g3 g4 w W := by
  have := slTake_ok w B b g1 g2 g3 g4 k1 k2 k3 k4 lw n lc i S c.seg c.laid c.ws c.ks c.vs c.cs h hne (okC_u hok) hin hn hq hlw hS hS4 hs hlc (fun k => by have := okC_n hok k; omega)
  have e : c.seg.toNat = S := by rw [hS]; rfl
  unfold ArrC tkC
  rw [e]
  exact this
theorem ArrOn.blocks {B : Nat} {W : World} {b g1 g2 g3 g4 k1 k2 k3 k4 lw n lc : Nat} {seg laid : Int} {ws ks vs cs : List Int} (h : ArrOn B W b g1 g2 g3 g4 k1 k2 k3 k4 lw n lc seg laid ws ks vs cs) : b < W.heap.size ∧ g1 < W.heap.size ∧ g2 < W.heap.size ∧ g3 < W.heap.size ∧ g4 < W.heap.size :=
  ⟨World.block_lt_of_cell? _ _ h.c0, (h.o1.lt g1 rfl).2, (h.o2.lt g2 rfl).2, (h.o3.lt g3 rfl).2, (h.o4.lt g4 rfl).2⟩
theorem ArrOn.below {B : Nat} {W W' : World} {b g1 g2 g3 g4 k1 k2 k3 k4 lw n lc : Nat} {seg laid : Int} {ws ks vs cs : List Int} (h : ArrOn B W b g1 g2 g3 g4 k1 k2 k3 k4 lw n lc seg laid ws ks vs cs) (hb : Below W.heap.size W W') : ArrOn B W' b g1 g2 g3 g4 k1 k2 k3 k4 lw n lc seg laid ws ks vs cs := by
  have hl := h.blocks.1
  exact ⟨(hb.cell (p := ⟨b, 0, none⟩) hl).trans h.c0, (hb.cell (p := ⟨b, 1, none⟩) hl).trans h.c1, (hb.cell (p := ⟨b, 2, none⟩) hl).trans h.c2, (hb.cell (p := ⟨b, 3, none⟩) hl).trans h.c3, (hb.cell (p := ⟨b, 4, none⟩) hl).trans h.c4, (hb.cell (p := ⟨b, 5, none⟩) hl).trans h.c5, (hb.frozen (p := ⟨b, 5, none⟩) hl).trans h.f5, owns_below h.o1 hb, owns_below h.o2 hb, owns_below h.o3 hb, owns_below h.o4 hb⟩
theorem lay_ok (w : World) (B b g1 g2 g3 g4 k1 k2 k3 k4 lw n lc i S : Nat) (c : SlC) (key val : Int) (h : ArrC B w b g1 g2 g3 g4 k1 k2 k3 k4 lw n lc c) (hne : ArrNe b g1 g2 g3 g4) (hok : okC c = true) (hin : i < n) (hn : n ≤ 65536) (hq : i / 64 < lw) (hlw : lw ≤ 65536) (hS : c.seg = S) (hS4 : 4 ≤ S) (hs : i / S < lc) (hlc : lc ≤ 65536) :
    Calls Try.prog 68 #[.pointer (some ⟨b, 0, none⟩), .int .i64 i, .agg #[.int .i64 key, .int .i64 val]] w fun e W => e = .returned (.tuple #[]) ∧ ArrC B W b g1 g2 g3 g4 k1 k2 k3 k4 lw n lc (lyC c i key val) ∧ Kept5 b g1 g2 g3 g4 w W := by
  have e : c.seg.toNat = S := by rw [hS]; rfl
  have hbl := ArrOn.blocks h
  have hrT : (i : Int).tmod 64 = (i % 64 : Nat) := by rw [Int.tmod_eq_emod_of_nonneg (by omega)]; omega
  have hsI : (i : Int) / c.seg = (i / S : Nat) := by rw [hS]; push_cast; rfl
  have hnx : -1 ≤ (tkC c i).cs.getD (i / S) 0 ∧ (tkC c i).cs.getD (i / S) 0 ≤ 65536 := by
    have hk := okC_n hok (i / S)
    unfold tkC
    rw [e]
    dsimp only
    split
    · by_cases hl : i / S < c.cs.length
      · rw [set_getD hl]
        rw [if_pos rfl]
        omega
      · rw [List.getD_eq_getElem?_getD, List.getElem?_eq_none (by rw [List.length_set]; omega)]
        simp
    · omega
  have := slLay_core w B b g1 g2 g3 g4 k1 k2 k3 k4 lw n lc i (i / 64) (i % 64) (i / S) c.seg _ _ c.laid key val (tkC c i).ws (tkC c i).ks (tkC c i).vs (tkC c i).cs hbl.1 hbl.2.1 hbl.2.2.1 hbl.2.2.2.1 hbl.2.2.2.2 hin hn (by omega) (by omega) hrT (by omega) hq hs hsI (by simp; omega) (by omega) (by omega) hlc hlw hne.n1 hne.n2 hne.n3 hne.n4 hne.n12 hne.n13 hne.n14 hne.n23 hne.n24 hne.n34 rfl rfl hnx.1 hnx.2
    (Lib.hid fun W hb => (take_ok W B b g1 g2 g3 g4 k1 k2 k3 k4 lw n lc i S c (ArrOn.below h hb) hne hok hin hn hq hlw hS hS4 hs hlc).mono fun e' W' ⟨h1, h2, h3⟩ => ⟨⟨_, h1⟩, h2, h3⟩)
  unfold ArrC lyC
  rw [e]
  exact this
end

section
open Go.RowKit

/-- the first j slots from lo on taken; the first k pairs laid -/
def tks (c : SlC) (lo : Nat) : Nat → SlC
  | 0 => c
  | j + 1 => tkC (tks c lo j) (lo + j)
def lys (c : SlC) (ps : List Nat) (L : List (Int × Int)) : Nat → SlC
  | 0 => c
  | k + 1 => lyC (lys c ps L k) (ps.getD k 0) (L.getD k (0, 0)).1 (L.getD k (0, 0)).2
theorem tks_seg (c : SlC) (lo : Nat) : ∀ j, (tks c lo j).seg = c.seg
  | 0 => rfl
  | j + 1 => by rw [tks, tkC]; exact tks_seg c lo j
theorem lys_seg (c : SlC) (ps : List Nat) (L : List (Int × Int)) : ∀ k, (lys c ps L k).seg = c.seg
  | 0 => rfl
  | k + 1 => by rw [lys, lyC]; exact lys_seg c ps L k
def pvF (ps : List Nat) (lo : Nat) (k : Nat) : Int := if k = 0 then (lo : Int) - 1 else (ps.getD (k - 1) 0 : Nat)
theorem kept_below {B g1 g2 g3 g4 : Nat} {w0 w W : World} (hb : Below B w0 w) (k : KeptA g1 g2 g3 g4 w W) (hB : B ≤ w.heap.size) (h1 : B ≤ g1) (h2 : B ≤ g2) (h3 : B ≤ g3) (h4 : B ≤ g4) : Below B w0 W :=
  ⟨k.os.trans hb.os, k.tape.trans hb.tape, k.output.trans hb.output, Nat.le_trans hb.size k.size, fun q hq => (k.block q (by omega) (by omega) (by omega) (by omega) (by omega)).trans (hb.block q hq)⟩
theorem kept5_below {B b g1 g2 g3 g4 : Nat} {w0 w W : World} (hb : Below B w0 w) (k : Kept5 b g1 g2 g3 g4 w W) (hB : B ≤ w.heap.size) (h0 : B ≤ b) (h1 : B ≤ g1) (h2 : B ≤ g2) (h3 : B ≤ g3) (h4 : B ≤ g4) : Below B w0 W :=
  ⟨k.os.trans hb.os, k.tape.trans hb.tape, k.output.trans hb.output, Nat.le_trans hb.size k.size, fun q hq => (k.block q (by omega) (by omega) (by omega) (by omega) (by omega) (by omega)).trans (hb.block q hq)⟩
theorem owns_at {w : World} {B : Nat} {e : TypeId} {v : Value} {n : Nat} {xs : List Value} (h : w.ownsRow B e 1 v n xs) (hn : 0 < n) : ∃ g k, v = .slice (some ⟨g, 0, none⟩) n k ∧ B ≤ g ∧ g < w.heap.size := by
  obtain ⟨h1, ⟨rfl, h2⟩ | ⟨g, cap, cur, rfl, hg, hh, _⟩⟩ := h
  · omega
  · exact ⟨g, cap, rfl, hg, (Array.getElem?_eq_some_iff.1 hh).1⟩

set_option maxRecDepth 100000 in
set_option maxHeartbeats 1000000 in
theorem slFill_core (w : World) (seg : Int) (wa ka va ca : Option Addr) (wc kc vc cc lw n lc : Nat) (laid : Int) (c : SlC) (lo hi m S : Nat) (ps : List Nat) (L : List (Int × Int)) (pa la : Option Addr) (pc pl : Nat)
    (hseg : c.seg = seg) (hlaid : c.laid = laid) (hlw : c.ws.length = lw) (hlk : c.ks.length = n) (hlv : c.vs.length = n) (hlc : c.cs.length = lc) (h1 : 0 < lw) (h2 : 0 < n) (h3 : 0 < lc) (hn : n ≤ 65536) (hlw2 : lw ≤ 65536) (hlc2 : lc ≤ 65536) (hS : seg = S) (hS4 : 4 ≤ S) (hlo : lo ≤ hi) (hhi : hi ≤ n) (hwn : n ≤ 64 * lw) (hcn : n = S * lc)
    (hps : ps.length = m) (hL : L.length = m) (hm : m ≤ 65536) (hpv : ∀ k, k < m → pvF ps lo k < (ps.getD k 0 : Nat) ∧ ps.getD k 0 < hi) (hokt : ∀ j, j < hi - lo → okC (tks c lo j) = true) (hokl : ∀ k, k < m → okC (lys (tks c lo (hi - lo)) ps L k) = true)
    (HP : Hid (IsRow .i64 w pa (ints ps))) (HL : Hid (IsRow .i64 w la (prI L)))
    (PT : Hid (∀ W, Below w.heap.size w W → Calls Try.prog 65 #[.agg #[.int .i64 seg, .slice wa lw wc, .slice ka n kc, .slice va n vc, .slice ca lc cc, .int .u64 laid], .int .i64 lo, .int .i64 hi] W (AnsB W (.int .i64 0))))
    (TW : Hid (∀ W, Below w.heap.size w W → Calls Try.prog 66 #[.agg #[.int .i64 seg, .slice wa lw wc, .slice ka n kc, .slice va n vc, .slice ca lc cc, .int .u64 laid]] W (FreshSlN W c))) :
    Calls Try.prog 45 #[.agg #[.int .i64 seg, .slice wa lw wc, .slice ka n kc, .slice va n vc, .slice ca lc cc, .int .u64 laid], .int .i64 lo, .int .i64 hi, .slice pa m pc, .slice la m pl] w (FreshSl2 w (lys (tks c lo (hi - lo)) ps L m) (.int .i64 0)) := by
  have HPV := Lib.hid hpv
  have HOT := Lib.hid hokt
  have HOL := Lib.hid hokl
  have HPS := Lib.hid hps
  have HLL := Lib.hid hL
  have HC := Lib.hid (And.intro hseg (And.intro hlaid (And.intro hlw (And.intro hlk (And.intro hlv hlc)))))
  have HSS := Lib.hid hS
  have HCN := Lib.hid hcn
  have gm : ((m : Int) != (m : Int)) = false := by simp
  have hwl : IntKind.i64.wrap ((lo : Int) - 1) = (lo : Int) - 1 := IntWalk.i64_in _ (by omega)
  clear hpv hokt hokl hps hL hseg hlaid hlw hlk hlv hlc hS hcn
  go_enter Try.func45, Try.ntmps45
  go_wp2_with fail
  refine (PT.out _ (((Below.refl _ _).alloc (Nat.le_refl _) _).alloc (by simp) _)).mono ?_
  rintro e w1 ⟨rfl, hb1⟩
  have hz_w1 := hb1.size
  try simp only [World.size_alloc, World.size_setCell] at hz_w1
  have all_c : w1.cell? ⟨w.heap.size, 0, none⟩ = some (.int .i64 seg) ∧ w1.cell? ⟨w.heap.size, 1, none⟩ = some (.slice wa lw wc) ∧ w1.cell? ⟨w.heap.size, 2, none⟩ = some (.slice ka n kc) ∧ w1.cell? ⟨w.heap.size, 3, none⟩ = some (.slice va n vc) ∧ w1.cell? ⟨w.heap.size, 4, none⟩ = some (.slice ca lc cc) ∧ w1.cell? ⟨w.heap.size, 5, none⟩ = some (.int .u64 laid) ∧ w1.cell? ⟨w.heap.size + 1, 0, none⟩ = some (.int .i64 0) ∧ w1.cell? ⟨w.heap.size + 1, 1, none⟩ = some (.slice none 0 0) ∧ w1.cell? ⟨w.heap.size + 1, 2, none⟩ = some (.slice none 0 0) ∧ w1.cell? ⟨w.heap.size + 1, 3, none⟩ = some (.slice none 0 0) ∧ w1.cell? ⟨w.heap.size + 1, 4, none⟩ = some (.slice none 0 0) ∧ w1.cell? ⟨w.heap.size + 1, 5, none⟩ = some (.int .u64 0) := by refine ⟨?_, ?_, ?_, ?_, ?_, ?_, ?_, ?_, ?_, ?_, ?_, ?_⟩ <;> (refine (hb1.cell ?_).trans ?_ <;> first | (first | (with_reducible assumption) | omega | (simp only [szW] <;> omega) | (simp <;> omega)) | (first | (with_reducible assumption) | ((try simp (disch := first | omega | (simp only [szW] <;> omega) | fail) only [ceW]) <;> first | (with_reducible assumption) | rfl)))
  have all_f : w1.frozen? ⟨w.heap.size + 1, 0, none⟩ = false ∧ w1.frozen? ⟨w.heap.size + 1, 1, none⟩ = false ∧ w1.frozen? ⟨w.heap.size + 1, 2, none⟩ = false ∧ w1.frozen? ⟨w.heap.size + 1, 3, none⟩ = false ∧ w1.frozen? ⟨w.heap.size + 1, 4, none⟩ = false ∧ w1.frozen? ⟨w.heap.size + 1, 5, none⟩ = false := by refine ⟨?_, ?_, ?_, ?_, ?_, ?_⟩ <;> (refine (hb1.frozen ?_).trans ?_ <;> first | (first | (with_reducible assumption) | omega | (simp only [szW] <;> omega) | (simp <;> omega)) | (first | (with_reducible assumption) | ((try simp (disch := first | omega | (simp only [szW] <;> omega) | fail) only [ceW]) <;> first | (with_reducible assumption) | rfl)))
  have all_z : w.heap.size < w1.heap.size ∧ w.heap.size + 1 < w1.heap.size := by refine ⟨?_, ?_⟩ <;> (omega)
  obtain ⟨c_t0, c_t1, c_t2, c_t3, c_t4, c_t5, c_r0, c_r1, c_r2, c_r3, c_r4, c_r5⟩ := all_c
  try clear all_c
  obtain ⟨f_r0, f_r1, f_r2, f_r3, f_r4, f_r5⟩ := all_f
  try clear all_f
  obtain ⟨z_t, z_r⟩ := all_z
  try clear all_z
  have hB1 : Below w.heap.size w w1 := by (repeat (first | with_reducible (first | exact Below.refl _ _ | assumption | exact Hid.out (by assumption) | refine Below.alloc ?_ ?_ _ | refine Below.setCell ?_ ?_ _ | refine below_drewN ?_ _ | refine Below.drew ?_ | refine below_via (by assumption) ?_ ?_) | (first | (with_reducible assumption) | omega | (simp only [szW] <;> omega) | (simp <;> omega))))
  have HB1 := Lib.hid hB1
  have hz1 : w.heap.size + 2 ≤ w1.heap.size := by omega
  clear hb1 hB1
  go_wp2
  go_loopg [13, 38] m (fun gk v iv wr => ∃ k : Nat, k + gk = m ∧ iv = .int .i64 k ∧ v = .int .i64 (pvF ps lo k) ∧ w1 = wr)
  case atStart => exact ⟨0, by omega, rfl, by simp [pvF], rfl⟩
  case round =>
    obtain ⟨k, hk, rfl, rfl, rfl⟩ := hrel
    by_cases hlt : k < m
    · obtain ⟨bl, ol, x', rfl, hx', cl, zl⟩ := (HP.out.below HB1.out).get (i := k) (by rw [ints_length, HPS.out]; exact hlt)
      obtain ⟨x, hx⟩ : ∃ x, ps.getD k 0 = x := ⟨_, rfl⟩
      have hxx : x' = (x : Int) := by rw [← hx'.out, getD_ints, hx]
      subst hxx
      have hpv := HPV.out k hlt
      rw [hx] at hpv
      have HX := Lib.hid hx
      obtain ⟨pv, hpvv⟩ : ∃ pv, pvF ps lo k = pv := ⟨_, rfl⟩
      rw [hpvv] at hpv ⊢
      have g1 : decide ((x : Int) ≤ pv) = false := by simp; omega
      have g2 : decide ((x : Int) ≥ hi) = false := by simp; omega
      have HK := Lib.hid hk
      clear hx hx' hpvv hk
      go_wp2
      go_roundg (gk - 1)
      case measure => have := HK.out; omega
      case rel => exact ⟨k + 1, by have := HK.out; omega, by go_num, by rw [pvF, if_neg (by omega), Nat.add_sub_cancel, HX.out], rfl⟩
    · have hkm : m = k := by omega
      subst hkm
      go_wp2_with fail
      refine (TW.out w1 HB1.out).mono ?_
      rintro e w2 ⟨v1, v2, v3, v4, rfl, o1, o2, o3, o4, hb2, hne⟩
      obtain ⟨eseg, elaid, elw, elk, elv, elc⟩ := HC.out
      rw [elw] at o1
      rw [elk] at o2
      rw [elv] at o3
      rw [elc] at o4
      rw [eseg, elaid]
      obtain ⟨g1, k1, rfl, hg1, hg1'⟩ := owns_at o1 h1
      obtain ⟨g2, k2, rfl, hg2, hg2'⟩ := owns_at o2 h2
      obtain ⟨g3, k3, rfl, hg3, hg3'⟩ := owns_at o3 h2
      obtain ⟨g4, k4, rfl, hg4, hg4'⟩ := owns_at o4 h3
      have n23 : g2 ≠ g3 := hne g2 g3 rfl rfl
      have apart : ∀ {e e' : TypeId} {g g' n n' k k' : Nat} {xs xs' : List Value}, w2.ownsRow w1.heap.size e 1 (.slice (some ⟨g, 0, none⟩) n k) n xs → w2.ownsRow w1.heap.size e' 1 (.slice (some ⟨g', 0, none⟩) n' k') n' xs' → e ≠ e' → g ≠ g' := by
        intro e e' g g' n n' k k' xs xs' ha hb hc
        rcases owns_apart ha hb hc with h | h
        · cases h
        · intro hgg; exact h (by subst hgg; rfl)
      have n12 := apart o1 o2 (by decide)
      have n13 := apart o1 o3 (by decide)
      have n14 := apart o1 o4 (by decide)
      have n24 := apart o2 o4 (by decide)
      have n34 := apart o3 o4 (by decide)
      clear apart hne
      have hz_w2 := hb2.size
      have HBW : Hid (Below w1.heap.size w1 w2) := Lib.hid hb2
      have HO := Lib.hid (And.intro o1 (And.intro o2 (And.intro o3 o4)))
      clear o1 o2 o3 o4 hb2
      go_wp2
      have hb3 : Below w2.heap.size w2 (w2.alloc (.cells #[.int .i64 seg, .slice (some ⟨g1, 0, none⟩) lw k1, .slice (some ⟨g2, 0, none⟩) n k2, .slice (some ⟨g3, 0, none⟩) n k3, .slice (some ⟨g4, 0, none⟩) lc k4, .int .u64 laid] 105)) := (Below.refl _ _).alloc (Nat.le_refl _) _
      have hA : ArrC w1.heap.size (w2.alloc (.cells #[.int .i64 seg, .slice (some ⟨g1, 0, none⟩) lw k1, .slice (some ⟨g2, 0, none⟩) n k2, .slice (some ⟨g3, 0, none⟩) n k3, .slice (some ⟨g4, 0, none⟩) lc k4, .int .u64 laid] 105)) w2.heap.size g1 g2 g3 g4 k1 k2 k3 k4 lw n lc c := by
        unfold ArrC
        rw [eseg, elaid]
        exact ⟨by ((try simp (disch := first | omega | (simp only [szW] <;> omega) | fail) only [ceW]) <;> rfl), by ((try simp (disch := first | omega | (simp only [szW] <;> omega) | fail) only [ceW]) <;> rfl), by ((try simp (disch := first | omega | (simp only [szW] <;> omega) | fail) only [ceW]) <;> rfl), by ((try simp (disch := first | omega | (simp only [szW] <;> omega) | fail) only [ceW]) <;> rfl), by ((try simp (disch := first | omega | (simp only [szW] <;> omega) | fail) only [ceW]) <;> rfl), by ((try simp (disch := first | omega | (simp only [szW] <;> omega) | fail) only [ceW]) <;> rfl), by ((try simp (disch := first | omega | (simp only [szW] <;> omega) | fail) only [ceW]) <;> rfl), owns_below HO.out.1 hb3, owns_below HO.out.2.1 hb3, owns_below HO.out.2.2.1 hb3, owns_below HO.out.2.2.2 hb3⟩
      have HA := Lib.hid hA
      have hzz : (w2.alloc (.cells #[.int .i64 seg, .slice (some ⟨g1, 0, none⟩) lw k1, .slice (some ⟨g2, 0, none⟩) n k2, .slice (some ⟨g3, 0, none⟩) n k3, .slice (some ⟨g4, 0, none⟩) lc k4, .int .u64 laid] 105)).heap.size = w2.heap.size + 1 := by simp
      have HB3 : Hid (Below w1.heap.size w1 (w2.alloc (.cells #[.int .i64 seg, .slice (some ⟨g1, 0, none⟩) lw k1, .slice (some ⟨g2, 0, none⟩) n k2, .slice (some ⟨g3, 0, none⟩) n k3, .slice (some ⟨g4, 0, none⟩) lc k4, .int .u64 laid] 105))) := Lib.hid (HBW.out.trans (hb3.mono HBW.out.size))
      generalize w2.alloc (.cells #[.int .i64 seg, .slice (some ⟨g1, 0, none⟩) lw k1, .slice (some ⟨g2, 0, none⟩) n k2, .slice (some ⟨g3, 0, none⟩) n k3, .slice (some ⟨g4, 0, none⟩) lc k4, .int .u64 laid] 105) = w3 at *
      have HNE : Hid (ArrNe w2.heap.size g1 g2 g3 g4) := Lib.hid ⟨by omega, by omega, by omega, by omega, n12, n13, n14, n23, n24, n34⟩
      have hbb : w1.heap.size ≤ w2.heap.size := HBW.out.size
      have HEQ := Lib.hid (And.intro eseg elaid)
      clear hA hb3 HO n12 n13 n14 n23 n24 n34 eseg elaid elw elk elv elc HBW
      go_loopg [17] (hi - lo) (fun gk iv wr => ∃ j : Nat, j + gk = hi - lo ∧ iv = .int .i64 ((lo : Int) + j) ∧ Hid (ArrC w1.heap.size wr w2.heap.size g1 g2 g3 g4 k1 k2 k3 k4 lw n lc (tks c lo j)) ∧ Hid (Below w1.heap.size w1 wr) ∧ w2.heap.size < wr.heap.size)
      case atStart => exact ⟨0, by omega, by simp, HA, HB3, by omega⟩
      case round =>
        obtain ⟨j, hj, rfl, HAj, HBj, hzj⟩ := hrel
        by_cases hjt : lo + j < hi
        · have g5 : decide ((lo : Int) + j < hi) = true := by simp; omega
          have TK := take_ok wr w1.heap.size w2.heap.size g1 g2 g3 g4 k1 k2 k3 k4 lw n lc (lo + j) S (tks c lo j) HAj.out HNE.out (HOT.out j (by omega)) (by omega) hn (by omega) hlw2 (by rw [tks_seg, HEQ.out.1]; exact HSS.out) hS4 (by have := HCN.out; exact Nat.div_lt_of_lt_mul (by omega)) hlc2
          rw [show ((lo + j : Nat) : Int) = (lo : Int) + j by omega] at TK
          have TKH := Lib.hid TK
          have HJ := Lib.hid hj
          clear TK hj
          go_wp2_with fail
          refine TKH.out.mono ?_
          rintro e w5 ⟨rfl, hA5, hk5⟩
          have hB5 := kept_below HBj.out hk5 (by omega) hg1 hg2 hg3 hg4
          have hz5 := hk5.size
          have HA5 := Lib.hid hA5
          have HB5 := Lib.hid hB5
          clear hA5 hk5 hB5
          go_wp2
          go_roundg (gk - 1)
          case measure => have := HJ.out; omega
          case rel => exact ⟨j + 1, by have := HJ.out; omega, congrArg _ (by omega), HA5, HB5, by omega⟩
        · have g5 : decide ((lo : Int) + j < hi) = false := by simp; omega
          obtain rfl : j = hi - lo := by omega
          go_wp2
          generalize hi - lo = dl at *
          go_loopg [68] m (fun gk iv wr => ∃ k : Nat, k + gk = m ∧ iv = .int .i64 k ∧ Hid (ArrC w1.heap.size wr w2.heap.size g1 g2 g3 g4 k1 k2 k3 k4 lw n lc (lys (tks c lo dl) ps L k)) ∧ Hid (Below w1.heap.size w1 wr) ∧ w2.heap.size < wr.heap.size)
          case atStart => exact ⟨0, by omega, rfl, HAj, HBj, hzj⟩
          case round =>
            obtain ⟨k, hk, rfl, HAk, HBk, hzk⟩ := hrel
            have hBk : Below w.heap.size w wr := below_via HBk.out HB1.out (by omega)
            by_cases hkt : k < m
            · obtain ⟨bp, op, x', rfl, hx', cl, zl⟩ := (HP.out.below hBk).get (i := k) (by rw [ints_length, HPS.out]; exact hkt)
              obtain ⟨bl, ol, rfl, q0, q1, zq⟩ := pr_get (HL.out.below hBk) (i := k) (by rw [HLL.out]; exact hkt)
              obtain ⟨x, hx⟩ : ∃ x, ps.getD k 0 = x := ⟨_, rfl⟩
              have hxx : x' = (x : Int) := by rw [← hx'.out, getD_ints, hx]
              subst hxx
              have hpv := (HPV.out k hkt).2
              have LY := lay_ok wr w1.heap.size w2.heap.size g1 g2 g3 g4 k1 k2 k3 k4 lw n lc x S (lys (tks c lo dl) ps L k) (L.getD k (0, 0)).1 (L.getD k (0, 0)).2 HAk.out HNE.out (HOL.out k hkt) (by omega) hn (by omega) hlw2 (by rw [lys_seg, tks_seg, HEQ.out.1]; exact HSS.out) hS4 (by have := HCN.out; exact Nat.div_lt_of_lt_mul (by omega)) hlc2
              have LYH : Hid (Calls Try.prog 68 #[.pointer (some ⟨w2.heap.size, 0, none⟩), .int .i64 x, .agg #[.int .i64 (L.getD k (0, 0)).1, .int .i64 (L.getD k (0, 0)).2]] wr fun e W => e = .returned (.tuple #[]) ∧ ArrC w1.heap.size W w2.heap.size g1 g2 g3 g4 k1 k2 k3 k4 lw n lc (lys (tks c lo dl) ps L (k + 1)) ∧ Kept5 w2.heap.size g1 g2 g3 g4 wr W) := Lib.hid (by rw [lys, hx]; exact LY)
              have HK := Lib.hid hk
              generalize (L.getD k (0, 0)).1 = kx at *
              generalize (L.getD k (0, 0)).2 = vx at *
              clear LY hk hx hx'
              go_wp2_with fail
              refine LYH.out.mono ?_
              rintro e w5 ⟨rfl, hA5, hk5⟩
              have hB5 := kept5_below HBk.out hk5 (by omega) (by omega) hg1 hg2 hg3 hg4
              have hz5 := hk5.size
              have HA5 := Lib.hid hA5
              have HB5 := Lib.hid hB5
              clear hA5 hk5 hB5
              go_wp2
              go_roundg (gk - 1)
              case measure => have := HK.out; omega
              case rel => exact ⟨k + 1, by have := HK.out; omega, by go_num, HA5, HB5, by omega⟩
            · have hkm : m = k := by omega
              subst hkm
              have hAe := HAk.out
              unfold ArrC at hAe
              obtain ⟨e0, e1, e2, e3, e4, e5, -, p1, p2, p3, p4⟩ := hAe
              have l1 := own_len p1
              have l2 := own_len p2
              have l3 := own_len p3
              have l4 := own_len p4
              generalize lys (tks c lo dl) ps L m = d at *
              have hz_wr := HBk.out.size
              try simp only [World.size_alloc, World.size_setCell] at hz_wr
              have all_c : wr.cell? ⟨w.heap.size, 0, none⟩ = some (.int .i64 seg) ∧ wr.cell? ⟨w.heap.size, 1, none⟩ = some (.slice wa lw wc) ∧ wr.cell? ⟨w.heap.size, 2, none⟩ = some (.slice ka n kc) ∧ wr.cell? ⟨w.heap.size, 3, none⟩ = some (.slice va n vc) ∧ wr.cell? ⟨w.heap.size, 4, none⟩ = some (.slice ca lc cc) ∧ wr.cell? ⟨w.heap.size, 5, none⟩ = some (.int .u64 laid) ∧ wr.cell? ⟨w.heap.size + 1, 0, none⟩ = some (.int .i64 0) ∧ wr.cell? ⟨w.heap.size + 1, 1, none⟩ = some (.slice none 0 0) ∧ wr.cell? ⟨w.heap.size + 1, 2, none⟩ = some (.slice none 0 0) ∧ wr.cell? ⟨w.heap.size + 1, 3, none⟩ = some (.slice none 0 0) ∧ wr.cell? ⟨w.heap.size + 1, 4, none⟩ = some (.slice none 0 0) ∧ wr.cell? ⟨w.heap.size + 1, 5, none⟩ = some (.int .u64 0) := by refine ⟨?_, ?_, ?_, ?_, ?_, ?_, ?_, ?_, ?_, ?_, ?_, ?_⟩ <;> (refine (HBk.out.cell ?_).trans ?_ <;> first | (first | (with_reducible assumption) | omega | (simp only [szW] <;> omega) | (simp <;> omega)) | (first | (with_reducible assumption) | ((try simp (disch := first | omega | (simp only [szW] <;> omega) | fail) only [ceW]) <;> first | (with_reducible assumption) | rfl)))
              have all_f : wr.frozen? ⟨w.heap.size + 1, 0, none⟩ = false ∧ wr.frozen? ⟨w.heap.size + 1, 1, none⟩ = false ∧ wr.frozen? ⟨w.heap.size + 1, 2, none⟩ = false ∧ wr.frozen? ⟨w.heap.size + 1, 3, none⟩ = false ∧ wr.frozen? ⟨w.heap.size + 1, 4, none⟩ = false ∧ wr.frozen? ⟨w.heap.size + 1, 5, none⟩ = false := by refine ⟨?_, ?_, ?_, ?_, ?_, ?_⟩ <;> (refine (HBk.out.frozen ?_).trans ?_ <;> first | (first | (with_reducible assumption) | omega | (simp only [szW] <;> omega) | (simp <;> omega)) | (first | (with_reducible assumption) | ((try simp (disch := first | omega | (simp only [szW] <;> omega) | fail) only [ceW]) <;> first | (with_reducible assumption) | rfl)))
              have all_z : w.heap.size < wr.heap.size ∧ w.heap.size + 1 < wr.heap.size := by refine ⟨?_, ?_⟩ <;> (omega)
              clear c_t0 c_t1 c_t2 c_t3 c_t4 c_t5 c_r0 c_r1 c_r2 c_r3 c_r4 c_r5 f_r0 f_r1 f_r2 f_r3 f_r4 f_r5 z_t z_r
              obtain ⟨c_t0, c_t1, c_t2, c_t3, c_t4, c_t5, c_r0, c_r1, c_r2, c_r3, c_r4, c_r5⟩ := all_c
              try clear all_c
              obtain ⟨f_r0, f_r1, f_r2, f_r3, f_r4, f_r5⟩ := all_f
              try clear all_f
              obtain ⟨z_t, z_r⟩ := all_z
              try clear all_z
              have HP1 := Lib.hid p1
              have HP2 := Lib.hid p2
              have HP3 := Lib.hid p3
              have HP4 := Lib.hid p4
              clear p1 p2 p3 p4 HAk
              go_wp2
              have HQ : Hid (∀ q, w.heap.size + 2 ≤ q → ((((((wr.setCell ⟨w.heap.size + 1, 0, none⟩ (.int .i64 d.seg)).setCell ⟨w.heap.size + 1, 1, none⟩ (.slice (some ⟨g1, 0, none⟩) lw k1)).setCell ⟨w.heap.size + 1, 2, none⟩ (.slice (some ⟨g2, 0, none⟩) n k2)).setCell ⟨w.heap.size + 1, 3, none⟩ (.slice (some ⟨g3, 0, none⟩) n k3)).setCell ⟨w.heap.size + 1, 4, none⟩ (.slice (some ⟨g4, 0, none⟩) lc k4)).setCell ⟨w.heap.size + 1, 5, none⟩ (.int .u64 d.laid)).heap[q]? = wr.heap[q]?) := Lib.hid fun q hq => by
                rw [heap_setCell_ne _ _ _ (by dsimp only; omega), heap_setCell_ne _ _ _ (by dsimp only; omega), heap_setCell_ne _ _ _ (by dsimp only; omega), heap_setCell_ne _ _ _ (by dsimp only; omega), heap_setCell_ne _ _ _ (by dsimp only; omega), heap_setCell_ne _ _ _ (by dsimp only; omega)]
              refine bodyPost_ret (results_ct rfl rfl (run_loadVar_many _ Try.underlying29 rfl (by kernel_rfl) (six_set c_r0 c_r1 c_r2 c_r3 c_r4 c_r5))) rfl ⟨_, _, _, _, rfl, ?_, ?_, ?_, ?_, ?_⟩
              · rw [l1]; exact owns_base (owns_heap HP1.out fun j hj => HQ.out j (by have := (HP1.out.lt j hj).1; omega)) (by omega)
              · rw [l2]; exact owns_base (owns_heap HP2.out fun j hj => HQ.out j (by have := (HP2.out.lt j hj).1; omega)) (by omega)
              · rw [l3]; exact owns_base (owns_heap HP3.out fun j hj => HQ.out j (by have := (HP3.out.lt j hj).1; omega)) (by omega)
              · rw [l4]; exact owns_base (owns_heap HP4.out fun j hj => HQ.out j (by have := (HP4.out.lt j hj).1; omega)) (by omega)
              · exact (((((hBk.setCell (by dsimp only; omega) _).setCell (by dsimp only; omega) _).setCell (by dsimp only; omega) _).setCell (by dsimp only; omega) _).setCell (by dsimp only; omega) _).setCell (by dsimp only; omega) _
end

section
open Go.RowKit

end
end Go.Proofs.Ytookgoidlnlckaa
