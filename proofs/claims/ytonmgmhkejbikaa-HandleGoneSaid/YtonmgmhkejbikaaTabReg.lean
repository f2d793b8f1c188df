/- The statement of handle.Make that makes both rows longer: a region of its own. -/
import Derived.Test.YtonmgmhkejbikaaTabMkJ
namespace Go.Proofs.Ytonmgmhkejbikaa
open Go.RowKit Go.Shelf
set_option linter.unusedVariables false
set_option linter.unusedSimpArgs false

/-- a region of a function's text, by its number -/
def findReg (n : Nat) : Code → Option Code
  | .region k ops d => if k = n then some (.region k ops d) else none
  | .seq a b => match findReg n a with
    | some c => some c
    | none => findReg n b
  | .block _ c => findReg n c
  | .scope c => findReg n c
  | .loop c => findReg n c
  | .cond _ a b => match findReg n a with
    | some c => some c
    | none => findReg n b
  | _ => none
noncomputable def makeReg : Code := (Try.f23.body.bind (findReg 13)).getD .skip

/-- what holds behind it -/
def MakeRegQ (w : World) (X D : Nat) (gs2 ps2 : List Int) (len : Nat) (ds : List Deferred) : Exit → Act → World → Prop :=
  Exit.then (fun a' w' => (∃ (va2 ua2 : Option Addr) (vc2 uc2 MM : Nat), MkJ w X (w.heap.size + 1 + 1 + 1) MM D (.slice va2 gs2.length vc2) (.slice ua2 ps2.length uc2) (.slice va2 gs2.length vc2) (.slice ua2 ps2.length uc2) gs2 ps2 len 0 w') ∧
    ∃ u : Nat → Value, a' = { tmps := #[u 0, u 1, u 2, u 3, .pointer (some ⟨w.heap.size + 1, 0, none⟩), .pointer (some ⟨w.heap.size + 1 + 1, 0, none⟩), u 6, u 7, .pointer (some ⟨X, 0, none⟩), .pointer (some ⟨X + 1, 0, none⟩), u 10, u 11, u 12, u 13, u 14, u 15, u 16, u 17, u 18, u 19, u 20, u 21, u 22, u 23, u 24, u 25, u 26, u 27, u 28, u 29, u 30, u 31, u 32, u 33, u 34, u 35, u 36, u 37, u 38, u 39, u 40, u 41, u 42, u 43, u 44, u 45, u 46, u 47, u 48, u 49, u 50, u 51, u 52, u 53, u 54, u 55, u 56, u 57, u 58, u 59, u 60, u 61, u 62, u 63, u 64, u 65, u 66, u 67, u 68, u 69, u 70, u 71, u 72, u 73, u 74, u 75, u 76, u 77, u 78, u 79, u 80, u 81, u 82, u 83, u 84, u 85, u 86, u 87, u 88, u 89, u 90, u 91, u 92, u 93, u 94, u 95, u 96, u 97, u 98, u 99, u 100, u 101, u 102], defers := ds }) (fun _ _ _ => False)

set_option maxRecDepth 100000 in
set_option maxHeartbeats 8000000 in
theorem make_region {w W3 : World} {X D : Nat} {va ua : Option Addr} {vc uc : Nat} {gs ps gs2 ps2 : List Int} {at_ : Int} {len : Nat} {ds : List Deferred} {t0 t2 t3 t6 t7 t10 t11 t12 t13 t14 t15 t16 t17 t18 t19 t20 t21 t22 t23 t24 t25 t26 t27 t28 t29 t30 t31 t32 t33 t34 t35 t36 t37 t38 t39 t40 t41 t42 t43 t44 t45 t46 t47 t48 t49 t50 t51 t52 t53 t54 t55 t56 t57 t58 t59 t60 t61 t62 t63 t64 t65 t66 t67 t68 t69 t70 t71 t72 t73 t74 t75 t76 t77 t78 t79 t80 t81 t82 t83 t84 t85 t86 t87 t88 t89 t90 t91 t92 t93 t94 t95 t96 t97 t98 t99 t100 t101 t102 : Value}
    (h1 : gs.length < 65536) (h2 : ps.length < 65536) (hX : w.heap.size + 1 + 1 + 1 ≤ X) (hD : X < D) (HGS : Hid (gs ++ [0] = gs2)) (HPS : Hid (ps ++ [at_] = ps2))
    (HVR : Hid (∀ k, (Value.slice va len vc).ownBlock = some k → w.heap.size + 1 + 1 + 1 ≤ k ∧ k < X)) (HUR : Hid (∀ k, (Value.slice ua len uc).ownBlock = some k → w.heap.size + 1 + 1 + 1 ≤ k ∧ k < X))
    (HJ : Hid (MkJ w X (w.heap.size + 1 + 1 + 1) X D (.slice va len vc) (.slice ua len uc) (.slice va len vc) (.slice ua len uc) gs ps len 0 W3)) :
    Code.wp Try.prog makeReg (MakeRegQ w X D gs2 ps2 len ds) { tmps := #[t0, .int .i64 at_, t2, t3, .pointer (some ⟨w.heap.size + 1, 0, none⟩), .pointer (some ⟨w.heap.size + 1 + 1, 0, none⟩), t6, t7, .pointer (some ⟨X, 0, none⟩), .pointer (some ⟨X + 1, 0, none⟩), t10, t11, t12, t13, t14, t15, t16, t17, t18, t19, t20, t21, t22, t23, t24, t25, t26, t27, t28, t29, t30, t31, t32, t33, t34, t35, t36, t37, t38, t39, t40, t41, t42, t43, t44, t45, t46, t47, t48, t49, t50, t51, t52, t53, t54, t55, t56, t57, t58, t59, t60, t61, t62, t63, t64, t65, t66, t67, t68, t69, t70, t71, t72, t73, t74, t75, t76, t77, t78, t79, t80, t81, t82, t83, t84, t85, t86, t87, t88, t89, t90, t91, t92, t93, t94, t95, t96, t97, t98, t99, t100, t101, t102], defers := ds } W3 := by
  have c_x0 := HJ.out.xb.cell X 0 (.slice va len vc) (by simp)
  have c_x1 := HJ.out.xb.cell X 1 (.slice ua len uc) (by simp)
  have f_x0 := HJ.out.xb.frozen X 0 (.slice va len vc) (by simp)
  have f_x1 := HJ.out.xb.frozen X 1 (.slice ua len uc) (by simp)
  have hXW : X < W3.heap.size := by have := HJ.out.sz; omega
  unfold MakeRegQ
  conv => arg 2; whnf
  go_region_law (first
    | (refine step_append1 (.tmp 56) (.tmp 57) (w.heap.size + 1 + 1 + 1) _ _ gs 0 (owns_below HJ.out.own.g (by (repeat (first | (with_reducible exact Below.refl _ _) | (with_reducible assumption) | (with_reducible exact Hid.out (by with_reducible assumption)) | (with_reducible refine Below.alloc ?_ ?_ _) | (with_reducible refine Below.setCell ?_ ?_ _) | (with_reducible refine below_drewN ?_ _) | (with_reducible refine Below.drew ?_) | (with_reducible refine below_via (by with_reducible assumption) ?_ ?_) | (first | (with_reducible assumption) | omega | (simp only [World.size_alloc, World.size_setCell, World.size_drew, World.heap_drewN] <;> omega) | (simp <;> omega)))))) (by (first | (with_reducible assumption) | ((try simp (disch := first | omega | (simp only [World.size_alloc, World.size_setCell, World.size_drew, World.heap_drewN] <;> omega) | fail) only [World.cell?_alloc_past, World.cell?_alloc_at, World.frozen?_alloc_past, World.frozen?_alloc_at, World.frozen?_setCell, World.cell?_drew, World.frozen?_drew]) <;> first | (with_reducible assumption) | rfl))) (by omega) (by (first | (with_reducible assumption) | omega | (simp only [World.size_alloc, World.size_setCell, World.size_drew, World.heap_drewN] <;> omega) | (simp <;> omega))) rfl rfl rfl rfl ?_
       intro v' wA hpa
       obtain ⟨va2, vc2, rfl, -, -⟩ := owns_news (hpa.own' HGS.out)
       have hzA := hpa.size
       try simp only [World.size_alloc, World.size_drew] at hzA
       have HJA := Lib.hid ((HJ.out.below (by (repeat (first | (with_reducible exact Below.refl _ _) | (with_reducible assumption) | (with_reducible exact Hid.out (by with_reducible assumption)) | (with_reducible refine Below.alloc ?_ ?_ _) | (with_reducible refine Below.setCell ?_ ?_ _) | (with_reducible refine below_drewN ?_ _) | (with_reducible refine Below.drew ?_) | (with_reducible refine below_via (by with_reducible assumption) ?_ ?_) | (first | (with_reducible assumption) | omega | (simp only [World.size_alloc, World.size_setCell, World.size_drew, World.heap_drewN] <;> omega) | (simp <;> omega)))))).push_g hpa HGS.out HVR.out (by omega) (by omega) (by (first | (with_reducible assumption) | omega | (simp only [World.size_alloc, World.size_setCell, World.size_drew, World.heap_drewN] <;> omega) | (simp <;> omega))))
       have HVR2 := Lib.hid (hpa.range HVR.out)
       have HPA := Lib.hid hpa
       have hxA : X < wA.heap.size := by have := HJA.out.sz; omega
       have c_x0 := HJA.out.xb.cell X 0 (.slice va len vc) (by simp)
       have c_x1 := HJA.out.xb.cell X 1 (.slice ua len uc) (by simp)
       have f_x0 := HJA.out.xb.frozen X 0 (.slice va len vc) (by simp)
       have f_x1 := HJA.out.xb.frozen X 1 (.slice ua len uc) (by simp)
       clear hpa)
    | (refine step_append1 (.tmp 63) (.tmp 65) (w.heap.size + 1 + 1 + 1) _ _ ps at_ (owns_below HJA.out.own.p (by (repeat (first | (with_reducible exact Below.refl _ _) | (with_reducible assumption) | (with_reducible exact Hid.out (by with_reducible assumption)) | (with_reducible refine Below.alloc ?_ ?_ _) | (with_reducible refine Below.setCell ?_ ?_ _) | (with_reducible refine below_drewN ?_ _) | (with_reducible refine Below.drew ?_) | (with_reducible refine below_via (by with_reducible assumption) ?_ ?_) | (first | (with_reducible assumption) | omega | (simp only [World.size_alloc, World.size_setCell, World.size_drew, World.heap_drewN] <;> omega) | (simp <;> omega)))))) (by first | (first | (with_reducible assumption) | ((try simp (disch := first | omega | (simp only [World.size_alloc, World.size_setCell, World.size_drew, World.heap_drewN] <;> omega) | fail) only [World.cell?_alloc_past, World.cell?_alloc_at, World.frozen?_alloc_past, World.frozen?_alloc_at, World.frozen?_setCell, World.cell?_drew, World.frozen?_drew]) <;> first | (with_reducible assumption) | rfl)) | exact HPA.out.cell (by (first | (with_reducible assumption) | ((try simp (disch := first | omega | (simp only [World.size_alloc, World.size_setCell, World.size_drew, World.heap_drewN] <;> omega) | fail) only [World.cell?_alloc_past, World.cell?_alloc_at, World.frozen?_alloc_past, World.frozen?_alloc_at, World.frozen?_setCell, World.cell?_drew, World.frozen?_drew]) <;> first | (with_reducible assumption) | rfl))) (fun e => by have := HVR.out _ e; dsimp only at this; omega)) (by omega) (by (first | (with_reducible assumption) | omega | (simp only [World.size_alloc, World.size_setCell, World.size_drew, World.heap_drewN] <;> omega) | (simp <;> omega))) rfl rfl rfl rfl ?_
       intro u' wB hpb
       obtain ⟨ua2, uc2, rfl, -, -⟩ := owns_news (hpb.own' HPS.out)
       have hzB := hpb.size
       try simp only [World.size_alloc, World.size_drew] at hzB
       have HJB := Lib.hid ((HJA.out.below (by (repeat (first | (with_reducible exact Below.refl _ _) | (with_reducible assumption) | (with_reducible exact Hid.out (by with_reducible assumption)) | (with_reducible refine Below.alloc ?_ ?_ _) | (with_reducible refine Below.setCell ?_ ?_ _) | (with_reducible refine below_drewN ?_ _) | (with_reducible refine Below.drew ?_) | (with_reducible refine below_via (by with_reducible assumption) ?_ ?_) | (first | (with_reducible assumption) | omega | (simp only [World.size_alloc, World.size_setCell, World.size_drew, World.heap_drewN] <;> omega) | (simp <;> omega)))))).push_p hpb HPS.out HUR.out (by omega) (by omega) (by (first | (with_reducible assumption) | omega | (simp only [World.size_alloc, World.size_setCell, World.size_drew, World.heap_drewN] <;> omega) | (simp <;> omega))))
       have HUR2 := Lib.hid (hpb.range HUR.out)
       have hxB : X < wB.heap.size := by have := HJB.out.sz; omega
       have c_x0 := HJB.out.xb.cell X 0 (.slice va len vc) (by simp)
       have c_x1 := HJB.out.xb.cell X 1 (.slice ua len uc) (by simp)
       have f_x0 := HJB.out.xb.frozen X 0 (.slice va len vc) (by simp)
       have f_x1 := HJB.out.xb.frozen X 1 (.slice ua len uc) (by simp)
       clear hpb)
    | fail)
  all_goals
    refine ⟨⟨va2, ua2, vc2, uc2, wB.heap.size, HJB.out.setx (by omega) (by omega) ?_ ?_ _ _⟩, frame_mk _ _ _ ?_⟩
    · intro e
      have := HVR2.out _ e
      try simp only [World.size_alloc, World.size_drew] at this
      omega
    · intro e
      have := HUR2.out _ e
      try simp only [World.size_alloc, World.size_drew] at this
      omega
    · rfl
end Go.Proofs.Ytonmgmhkejbikaa
