/- Merged: GnTr, RangeE, VebPlain, Flat, IdxPlain, VebPos, IdxTree, IdxTwin, IdxFns, IdxLeaf, HeapFirst, Tree18, VebRef, VebLaid, VebTab, IdxNodes, IdxRead, IdxAll, Ref10, Built18, Build18, BuildIx, RowEq, IdxSame, BuildIxs, SlFns, Twin04, IdxFacts. -/
import Derived.Test.YtookgoidlnlckaaDoorGapNamesP2
import Derived.Test.YtookgoidlnlckaaDoorGapNamesP12
import Derived.Test.YtookgoidlnlckaaDoorGapNamesP4
import Derived.Test.YtookgoidlnlckaaDoorGapNamesP3
import Derived.Test.YtookgoidlnlckaaDoorGapNamesP10
import Derived.Test.YtookgoidlnlckaaDoorGapNamesP11
import Derived.Test.YtookgoidlnlckaaDoorGapNamesP6
namespace Go.Proofs.YtookgoidlnlckaaDoor
set_option maxRecDepth 100000
set_option maxHeartbeats 40000000
set_option linter.unusedVariables false
set_option linter.unusedSimpArgs false
section
open Go.RowKit Go.Shelf Go.Sort
def fndReg (n : Nat) : Code → Option Code
  | .region k ops d => if k = n then some (.region k ops d) else none
  | .seq a b => match fndReg n a with
    | some c => some c
    | none => fndReg n b
  | .block _ c => fndReg n c
  | .scope c => fndReg n c
  | .loop c => fndReg n c
  | .cond _ a b => match fndReg n a with
    | some c => some c
    | none => fndReg n b
  | _ => none
noncomputable def namesReg : Code := (Tryd.f4.body.bind (fndReg 22)).getD .skip
theorem GN_r22 (W : World) (ds : List Deferred) (r0 r1 r2 r3 r4 r6 r7 r9 r11 r13 r16 r17 r19 r20 r21 r22 r23 r24 r25 r26 r27 r28 r29 r30 r31 r32 r33 r34 r35 r36 r37 r38 r39 r40 r41 r42 r43 r44 r45 r46 r47 r48 r49 r50 r51 r52 r53 r54 r55 r56 r57 r58 r59 r60 r61 r62 r63 r64 r65 r66 r67 r68 r69 r70 r71 r72 r73 r74 r75 r76 r77 r78 r79 r80 r81 r82 r83 r84 r85 r86 r87 r88 r89 r90 r91 r92 r93 r94 r95 r96 r97 r98 r99 r100 r101 r102 r103 r104 r105 r106 r107 r108 r109 r110 r111 r112 r113 r114 r115 r116 r117 r118 r119 r120 r121 r122 r123 r124 r125 r126 r127 r128 r129 r130 r131 r132 r133 r134 r135 r136 r137 r138 r139 r140 r141 r142 r143 r144 r145 r146 r147 r148 r149 r150 r151 r152 r153 r154 r155 r156 r157 r158 r159 r160 r161 r162 r163 r164 r165 r166 r167 r168 r169 r170 r171 r172 r173 y0 y1 y2 y3 y4 y5 : Value) (Bx By : Nat) (c : Cfg)
    (c_x5 : W.cell? ⟨Bx, 5, none⟩ = some (.int .u64 8)) (P_y : Hid (PB W By [y0, y1, y2, y3, y4, y5]))
    (AL : Hid (∀ W', Below W.heap.size W W' → Calls Tryd.prog 7 #[] W' (AnsB W' (.bool true))))
    (CH : Hid (∀ W', Below W.heap.size W W' → Calls Tryd.prog 16 #[] W' (AnsB W' (.agg #[.int .u8 c.tag, .int .i64 c.most, .int .i64 c.seg, .int .i64 c.least, .int .i64 c.den, .int .i64 c.ll, .int .i64 c.rl, .int .i64 c.rh, .int .i64 c.lh]))))
    (C1 : Hid (∀ W', Below W.heap.size W W' → Calls Tryd.prog 18 #[.agg #[.int .u8 c.tag, .int .i64 c.most, .int .i64 c.seg, .int .i64 c.least, .int .i64 c.den, .int .i64 c.ll, .int .i64 c.rl, .int .i64 c.rh, .int .i64 c.lh], .agg #[y0, y1, y2, y3, y4, y5]] W' (AnsB W' (.int .i64 8))))
    (C2 : Hid (∀ W', Below W.heap.size W W' → Calls Tryd.prog 18 #[.agg #[.int .u8 c.tag, .int .i64 c.most, .int .i64 c.seg, .int .i64 c.least, .int .i64 c.den, .int .i64 c.ll, .int .i64 c.rl, .int .i64 c.rh, .int .i64 c.lh], .agg #[.int .i64 0, .slice none 0 0, .slice none 0 0, .slice none 0 0, .slice none 0 0, .int .u64 0]] W' (AnsB W' (.int .i64 8)))) :
    Code.wp Tryd.prog namesReg (Exit.then (fun a' w' => (∃ dq os, w' = grow (redrawn W dq) os) ∧ ∃ u134 u135 u136 u137 u138 u139 u140 u141 u142 u143 u144 u145 u146 u147 u148 u149 u150 u151 u152 u153 u154 u155 u156 u157 u158 u159 u160 u161 u162 u163 u164 u165 u166 u167 u168 u169 u170 u171 u172 u173 : Value, a' = { tmps := List.toArray (.bool true :: r1 :: r2 :: r3 :: r4 :: .pointer (some ⟨Bx, 0, none⟩) :: r6 :: r7 :: .int .i64 9 :: r9 :: .int .i64 9 :: r11 :: .int .i64 2 :: r13 :: .int .i64 2 :: .pointer (some ⟨By, 0, none⟩) :: r16 :: r17 :: .int .i64 50 :: r19 :: r20 :: r21 :: r22 :: r23 :: r24 :: r25 :: r26 :: r27 :: r28 :: r29 :: r30 :: r31 :: r32 :: r33 :: r34 :: r35 :: r36 :: r37 :: r38 :: r39 :: r40 :: r41 :: r42 :: r43 :: r44 :: r45 :: r46 :: r47 :: r48 :: r49 :: r50 :: r51 :: r52 :: r53 :: r54 :: r55 :: r56 :: r57 :: r58 :: r59 :: r60 :: r61 :: r62 :: r63 :: r64 :: r65 :: r66 :: r67 :: r68 :: r69 :: r70 :: r71 :: r72 :: r73 :: r74 :: r75 :: r76 :: r77 :: r78 :: r79 :: r80 :: r81 :: r82 :: r83 :: r84 :: r85 :: r86 :: r87 :: r88 :: r89 :: r90 :: r91 :: r92 :: r93 :: r94 :: r95 :: r96 :: r97 :: r98 :: r99 :: r100 :: r101 :: r102 :: r103 :: r104 :: r105 :: r106 :: r107 :: r108 :: r109 :: r110 :: r111 :: r112 :: r113 :: r114 :: r115 :: r116 :: r117 :: r118 :: r119 :: r120 :: r121 :: r122 :: r123 :: r124 :: r125 :: r126 :: r127 :: r128 :: r129 :: r130 :: r131 :: r132 :: r133 :: u134 :: u135 :: u136 :: u137 :: u138 :: u139 :: u140 :: u141 :: u142 :: u143 :: u144 :: u145 :: u146 :: u147 :: u148 :: u149 :: u150 :: u151 :: u152 :: u153 :: u154 :: u155 :: u156 :: u157 :: u158 :: u159 :: u160 :: u161 :: u162 :: u163 :: u164 :: u165 :: u166 :: u167 :: u168 :: u169 :: u170 :: u171 :: u172 :: u173 :: []), defers := ds }) (fun _ _ _ => False)) { tmps := List.toArray (r0 :: r1 :: r2 :: r3 :: r4 :: .pointer (some ⟨Bx, 0, none⟩) :: r6 :: r7 :: .int .i64 9 :: r9 :: .int .i64 9 :: r11 :: .int .i64 2 :: r13 :: .int .i64 2 :: .pointer (some ⟨By, 0, none⟩) :: r16 :: r17 :: .int .i64 50 :: r19 :: r20 :: r21 :: r22 :: r23 :: r24 :: r25 :: r26 :: r27 :: r28 :: r29 :: r30 :: r31 :: r32 :: r33 :: r34 :: r35 :: r36 :: r37 :: r38 :: r39 :: r40 :: r41 :: r42 :: r43 :: r44 :: r45 :: r46 :: r47 :: r48 :: r49 :: r50 :: r51 :: r52 :: r53 :: r54 :: r55 :: r56 :: r57 :: r58 :: r59 :: r60 :: r61 :: r62 :: r63 :: r64 :: r65 :: r66 :: r67 :: r68 :: r69 :: r70 :: r71 :: r72 :: r73 :: r74 :: r75 :: r76 :: r77 :: r78 :: r79 :: r80 :: r81 :: r82 :: r83 :: r84 :: r85 :: r86 :: r87 :: r88 :: r89 :: r90 :: r91 :: r92 :: r93 :: r94 :: r95 :: r96 :: r97 :: r98 :: r99 :: r100 :: r101 :: r102 :: r103 :: r104 :: r105 :: r106 :: r107 :: r108 :: r109 :: r110 :: r111 :: r112 :: r113 :: r114 :: r115 :: r116 :: r117 :: r118 :: r119 :: r120 :: r121 :: r122 :: r123 :: r124 :: r125 :: r126 :: r127 :: r128 :: r129 :: r130 :: r131 :: r132 :: r133 :: r134 :: r135 :: r136 :: r137 :: r138 :: r139 :: r140 :: r141 :: r142 :: r143 :: r144 :: r145 :: r146 :: r147 :: r148 :: r149 :: r150 :: r151 :: r152 :: r153 :: r154 :: r155 :: r156 :: r157 :: r158 :: r159 :: r160 :: r161 :: r162 :: r163 :: r164 :: r165 :: r166 :: r167 :: r168 :: r169 :: r170 :: r171 :: r172 :: r173 :: []), defers := ds } W := by
 have Ly := hid (fun (dd : Nat) (oo : Array Obj) => (show ∀ j v, [y0, y1, y2, y3, y4, y5][j]? = some v → (grow (redrawn W dd) oo).cell? ⟨By, j, none⟩ = some v from fun j v hj => cell_regrown (P_y.out j v hj) dd oo))
 have K0 := hid (fun d os => Calls.regrown_of (w := W) (d := d) (os := os) (AL.out (grow (redrawn W d) os) (below_regrown W d os)))
 have K1 := hid (fun d os => Calls.regrown_of (w := W) (d := d) (os := os) (CH.out (grow (redrawn W d) os) (below_regrown W d os)))
 have K2 := hid (fun d os => Calls.regrown_of (w := W) (d := d) (os := os) (C1.out (grow (redrawn W d) os) (below_regrown W d os)))
 have K3 := hid (fun d os => Calls.regrown_of (w := W) (d := d) (os := os) (C2.out (grow (redrawn W d) os) (below_regrown W d os)))
 have q0 := cell_regrown c_x5
 conv => arg 2; whnf
 try dsimp only [List.append]
 refine wp_region_quiet_below xk xk ?_
 iterate 6 (first | go_big_quiet_skip | (go_big_quiet_want; (first | refine quiet_load 29 (.tmp 15) By [y0, y1, y2, y3, y4, y5] rfl rfl Tryd.underlying29 rfl xk (fun w9 hC => by obtain ⟨⟨dd, oo⟩, rfl⟩ := hC; exact Ly.out dd oo) ?_); (conv => arg 1; simp only [Act.put, List.setIfInBounds_toArray, List.set_cons_succ, List.set_cons_zero]); go_big_quiet_on) | go_big_quiet_step (first | with_reducible exact K0.out _ _ | with_reducible exact K1.out _ _ | with_reducible exact K2.out _ _ | with_reducible exact K3.out _ _ | exact K0.out _ _ | exact K1.out _ _ | exact K2.out _ _ | exact K3.out _ _))
 as_aux_lemma =>
 iterate 6 (first | go_big_quiet_skip | (go_big_quiet_want; (first | refine quiet_load 29 (.tmp 15) By [y0, y1, y2, y3, y4, y5] rfl rfl Tryd.underlying29 rfl xk (fun w9 hC => by obtain ⟨⟨dd, oo⟩, rfl⟩ := hC; exact Ly.out dd oo) ?_); (conv => arg 1; simp only [Act.put, List.setIfInBounds_toArray, List.set_cons_succ, List.set_cons_zero]); go_big_quiet_on) | go_big_quiet_step (first | with_reducible exact K0.out _ _ | with_reducible exact K1.out _ _ | with_reducible exact K2.out _ _ | with_reducible exact K3.out _ _ | exact K0.out _ _ | exact K1.out _ _ | exact K2.out _ _ | exact K3.out _ _))
 as_aux_lemma =>
 iterate 6 (first | go_big_quiet_skip | (go_big_quiet_want; (first | refine quiet_load 29 (.tmp 15) By [y0, y1, y2, y3, y4, y5] rfl rfl Tryd.underlying29 rfl xk (fun w9 hC => by obtain ⟨⟨dd, oo⟩, rfl⟩ := hC; exact Ly.out dd oo) ?_); (conv => arg 1; simp only [Act.put, List.setIfInBounds_toArray, List.set_cons_succ, List.set_cons_zero]); go_big_quiet_on) | go_big_quiet_step (first | with_reducible exact K0.out _ _ | with_reducible exact K1.out _ _ | with_reducible exact K2.out _ _ | with_reducible exact K3.out _ _ | exact K0.out _ _ | exact K1.out _ _ | exact K2.out _ _ | exact K3.out _ _))
 as_aux_lemma =>
 iterate 6 (first | go_big_quiet_skip | (go_big_quiet_want; (first | refine quiet_load 29 (.tmp 15) By [y0, y1, y2, y3, y4, y5] rfl rfl Tryd.underlying29 rfl xk (fun w9 hC => by obtain ⟨⟨dd, oo⟩, rfl⟩ := hC; exact Ly.out dd oo) ?_); (conv => arg 1; simp only [Act.put, List.setIfInBounds_toArray, List.set_cons_succ, List.set_cons_zero]); go_big_quiet_on) | go_big_quiet_step (first | with_reducible exact K0.out _ _ | with_reducible exact K1.out _ _ | with_reducible exact K2.out _ _ | with_reducible exact K3.out _ _ | exact K0.out _ _ | exact K1.out _ _ | exact K2.out _ _ | exact K3.out _ _))
 as_aux_lemma =>
 iterate 6 (first | go_big_quiet_skip | (go_big_quiet_want; (first | refine quiet_load 29 (.tmp 15) By [y0, y1, y2, y3, y4, y5] rfl rfl Tryd.underlying29 rfl xk (fun w9 hC => by obtain ⟨⟨dd, oo⟩, rfl⟩ := hC; exact Ly.out dd oo) ?_); (conv => arg 1; simp only [Act.put, List.setIfInBounds_toArray, List.set_cons_succ, List.set_cons_zero]); go_big_quiet_on) | go_big_quiet_step (first | with_reducible exact K0.out _ _ | with_reducible exact K1.out _ _ | with_reducible exact K2.out _ _ | with_reducible exact K3.out _ _ | exact K0.out _ _ | exact K1.out _ _ | exact K2.out _ _ | exact K3.out _ _))
 as_aux_lemma =>
 iterate 6 (first | go_big_quiet_skip | (go_big_quiet_want; (first | refine quiet_load 29 (.tmp 15) By [y0, y1, y2, y3, y4, y5] rfl rfl Tryd.underlying29 rfl xk (fun w9 hC => by obtain ⟨⟨dd, oo⟩, rfl⟩ := hC; exact Ly.out dd oo) ?_); (conv => arg 1; simp only [Act.put, List.setIfInBounds_toArray, List.set_cons_succ, List.set_cons_zero]); go_big_quiet_on) | go_big_quiet_step (first | with_reducible exact K0.out _ _ | with_reducible exact K1.out _ _ | with_reducible exact K2.out _ _ | with_reducible exact K3.out _ _ | exact K0.out _ _ | exact K1.out _ _ | exact K2.out _ _ | exact K3.out _ _))
 as_aux_lemma =>
 iterate 5 (first | go_big_quiet_skip | (go_big_quiet_want; (first | refine quiet_load 29 (.tmp 15) By [y0, y1, y2, y3, y4, y5] rfl rfl Tryd.underlying29 rfl xk (fun w9 hC => by obtain ⟨⟨dd, oo⟩, rfl⟩ := hC; exact Ly.out dd oo) ?_); (conv => arg 1; simp only [Act.put, List.setIfInBounds_toArray, List.set_cons_succ, List.set_cons_zero]); go_big_quiet_on) | go_big_quiet_step (first | with_reducible exact K0.out _ _ | with_reducible exact K1.out _ _ | with_reducible exact K2.out _ _ | with_reducible exact K3.out _ _ | exact K0.out _ _ | exact K1.out _ _ | exact K2.out _ _ | exact K3.out _ _))
 refine wpQuiet_nil ?_
 intro w' hw'
 obtain ⟨⟨dq, osq⟩, hw''⟩ := hw'
 exact ⟨⟨dq, osq, hw''⟩, _, _, _, _, _, _, _, _, _, _, _, _, _, _, _, _, _, _, _, _, _, _, _, _, _, _, _, _, _, _, _, _, _, _, _, _, _, _, _, _, rfl⟩
end
section
open Go.RowKit
def IterE (P : Program) (gf : Nat) (lb : Array Value) (xs : List (Array Value)) (Kp : World → World → Prop) (w : World) : Prop :=
  ∀ (l : Nat) (J Jx : Nat → World → Prop) (W : World), Below w.heap.size w W → (∀ W1, ¬ J xs.length W1) →
    (∀ k W1 W2, J k W1 → Below W1.heap.size W1 W2 → J k W2) → (∀ k W1 W2, Jx k W1 → Below W1.heap.size W1 W2 → Jx k W2) →
    (∀ k W1, k < xs.length → J k W1 → YieldAt Fence.wide 0 P l (xs.getD k #[]) W1 fun e W' =>
     (e = .returned (.bool true) ∧ J (k + 1) W' ∧ Kp W1 W') ∨ (e = .returned (.bool false) ∧ Jx (k + 1) W')) →
    J 0 W →
    CallsIn Fence.wide 0 P gf (#[.func (.yield l) #[] #[]] ++ lb) W fun e W' => (∃ v, e = .returned v) ∧ (J xs.length W' ∨ ∃ k, k ≤ xs.length ∧ Jx k W')
theorem wp_range_e {P : Program} {g : Operand} {ps : Array Tmp} {assign body : Code} {Q : Exit → Act → World → Prop} {a : Act} {w : World}
    {gf : Nat} {lb : Array Value} (hg : a.eval g = .func (.func gf) #[] lb) (eg : ∀ args w, (callFunc gf args).run P w = .ok (.enter gf args) w)
    {xs : List (Array Value)} {Kp : World → World → Prop} {w0 : World} (hseq : IterE P gf lb xs Kp w0) (hb0 : Below w0.heap.size w0 w)
    (hKt : ∀ {A B C : World}, Kp A B → Kp B C → Kp A C) (hKb : ∀ (W : World) (l : Nat) (o o' : Obj), w.heap.size ≤ l → W.heap[l]? = some o → o.isCells = false → Kp W (W.putObj l o'))
    (hps : ∀ x ∈ xs, x.size = ps.size)
    (I : Nat → World → Prop) (Ix : Code → World → Prop) (hI : ∀ k W W', I k W → Calm w.heap.size W W' → I k W') (hIx : ∀ c W W', Ix c W → Calm w.heap.size W W' → Ix c W') (h0 : I 0 w)
    (hround : ∀ (l k : Nat) (W : World), w.heap.size ≤ l → k < xs.length → I k W →
      assign.wpIn (inRd l) 0 P (Exit.then (BodyOkW P l body w.heap.size Kp I Ix k W) (fun _ _ _ => False))
        { tmps := (ps.zip (xs.getD k #[])).foldl (fun t (p, v) => t.setIfInBounds p v) a.tmps, defers := [] } W)
    (hno : ∀ W, ¬ I xs.length W)
    (hstop : ∀ (D : Nat) (c : Code) (W : World), w.heap.size ≤ D → Ix c W → W.heap[D]? = some (.deferred (some [])) → c.wp P Q { a with defers := { target := .collected D, args := #[] } :: a.defers } W) :
    (Code.rangeFunc g ps assign body).wp P Q a w := by
 refine wpIn_wide (n := 0).1 (wpIn_rangeFunc ?_)
 intro fn hfn
 obtain ⟨rec, hrec⟩ : ∃ rec : LoopState → Option Code → Loop, rec = fun st pe => { state := st, pending := pe, fn, tmps := a.tmps, params := ps, assign, body, defers := w.heap.size } := ⟨_, rfl⟩
 obtain ⟨W1, hW1⟩ : ∃ W1, (w.alloc (.deferred (some []))).alloc (.loop (rec .ready none)) = W1 := ⟨_, rfl⟩
 have hL1 : W1.heap[w.heap.size + 1]? = some (.loop (rec .ready none)) := by
  rw [← hW1]; have := World.alloc_heap_new (w.alloc (.deferred (some []))) (.loop (rec .ready none)); rwa [World.size_alloc] at this
 have hK1 : W1.heap[w.heap.size]? = some (.deferred (some [])) := by
  rw [← hW1]; exact (Below.heap_alloc _ _ _ (by simp)).trans (World.alloc_heap_new w _)
 have hI1 : I 0 W1 := by rw [← hW1]; exact hI _ _ _ h0 ((Calm.alloc _ (Nat.le_refl _)).trans (Calm.alloc _ (by simp)))
 have hb1 : Below w0.heap.size w0 W1 := by
  rw [← hW1]; exact hb0.trans ((((Below.refl _ w).alloc (Nat.le_refl _) _).alloc (by simp) _).mono hb0.size)
 have calmOf : ∀ {A C : World}, w.heap.size ≤ A.heap.size → Below A.heap.size A C → Calm w.heap.size A C := fun hs hb =>
  ⟨hb.os, hb.tape, hb.output, hb.size, fun k hk => hb.block k xo, fun k o hk _ => (hb.block k (Array.getElem?_eq_some_iff.1 hk).1).trans hk⟩
 refine ⟨w.heap.size + 1, [{ target := .collected w.heap.size, args := #[] }], W1, { target := .fn (.func gf) lb, args := #[.func (.yield (w.heap.size + 1)) #[] #[]] }, W1, gf,
   #[.func (.yield (w.heap.size + 1)) #[] #[]] ++ lb, W1, ?_, ?_, fun _ _ => trivial, ?_, fun h => (by cases h), ?_⟩
 · rw [← hW1, hrec]; exact run_enterLoop_outer _ _ _ _ _
 · simp only [resolve, hg]
   simp [go_sem]
 · simp [invoke, go_sem, eg]
 · refine (hseq (w.heap.size + 1)
     (fun k W => I k W ∧ W.heap[w.heap.size + 1]? = some (.loop (rec .ready none)) ∧ W.heap[w.heap.size]? = some (.deferred (some [])))
     (fun _ W => ∃ c, Ix c W ∧ W.heap[w.heap.size + 1]? = some (.loop (rec .done (some c))) ∧ W.heap[w.heap.size]? = some (.deferred (some [])))
     W1 hb1 (fun W h => hno W h.1) ?_ ?_ ?_ ⟨hI1, hL1, hK1⟩).mono ?_
   · rintro k A C ⟨h1, h2, h3⟩ hb
     have l2 := (Array.getElem?_eq_some_iff.1 h2).1
     exact ⟨hI _ _ _ h1 (calmOf xo hb), (hb.block _ l2).trans h2, (hb.block _ xo).trans h3⟩
   · rintro k A C ⟨c, h1, h2, h3⟩ hb
     have l2 := (Array.getElem?_eq_some_iff.1 h2).1
     exact ⟨c, hIx _ _ _ h1 (calmOf xo hb), (hb.block _ l2).trans h2, (hb.block _ xo).trans h3⟩
   · -- one round
     rintro k W hkl ⟨hi, hl, hk⟩
     have hlt : w.heap.size + 1 < W.heap.size := (Array.getElem?_eq_some_iff.1 hl).1
     have hsz : (xs.getD k #[]).size = ps.size := by
      rw [List.getD_eq_getElem?_getD, List.getElem?_eq_getElem hkl]; exact hps _ (List.getElem_mem _)
     have hy := run_yield (P := P) (args := xs.getD k #[]) hl (by rw [hrec]; exact hsz)
     rw [hrec] at hy
     refine ⟨fn, _, assign, body, hy, roundIn_of_wpIn trivial (wpIn_mono (hround _ k W xo hkl hi) ?_)⟩
     intro e a1 Wa hq
     cases e with
     | normal =>
      obtain ⟨hks, hkpa, hbody⟩ := hq
      have hl0 := hl
      have hlt0 := hlt
      replace hl : Wa.heap[w.heap.size + 1]? = some (.loop (rec .ready none)) := hks.same _ _ hl0 (by rfl)
      replace hk : Wa.heap[w.heap.size]? = some (.deferred (some [])) := hks.same _ _ hk (by rfl)
      replace hlt : w.heap.size + 1 < Wa.heap.size := (Array.getElem?_eq_some_iff.1 hl).1
      refine ⟨_, run_beginRound hl (by rw [hrec]), ?_⟩
      have hl2 : (Wa.putObj (w.heap.size + 1) (.loop { rec .ready none with state := .busy })).heap[w.heap.size + 1]? = some (.loop { rec .ready none with state := .busy }) := World.putObj_heap_same hlt
      have hk2 : (Wa.putObj (w.heap.size + 1) (.loop { rec .ready none with state := .busy })).heap[w.heap.size]? = some (.deferred (some [])) := (World.putObj_heap_other xo).trans hk
      have hw2 : Kp Wa (Wa.putObj (w.heap.size + 1) (.loop { rec .ready none with state := .busy })) := hKb _ _ _ _ xo hl rfl
      have hi2 : Calm w.heap.size Wa (Wa.putObj (w.heap.size + 1) (.loop { rec .ready none with state := .busy })) := Calm.putObj _ xo hl rfl
      refine wpIn_mono (hbody _ hi2) ?_
      have fin : ∀ (jump : Option Code) (W3 : World), KeepsOthers (Wa.putObj (w.heap.size + 1) (.loop { rec .ready none with state := .busy })) W3 →
          (Instr.endRound (w.heap.size + 1) jump).run P W3 = .ok (.bool jump.isNone) (W3.putObj (w.heap.size + 1) (.loop (rec (if jump.isNone then .ready else .done) jump))) ∧
          W3.heap[w.heap.size + 1]? = some (.loop { rec .ready none with state := .busy }) ∧
          (W3.putObj (w.heap.size + 1) (.loop (rec (if jump.isNone then .ready else .done) jump))).heap[w.heap.size + 1]? = some (.loop (rec (if jump.isNone then .ready else .done) jump)) ∧
          (W3.putObj (w.heap.size + 1) (.loop (rec (if jump.isNone then .ready else .done) jump))).heap[w.heap.size]? = some (.deferred (some [])) := fun jump W3 hk3 => by
       have hl3 := hk3.same _ _ hl2 rfl
       have := run_endRound (P := P) jump hl3
       rw [hrec] at this ⊢
       exact ⟨this, by rw [hrec] at hl3; exact hl3, World.putObj_heap_same (Array.getElem?_eq_some_iff.1 hl3).1, (World.putObj_heap_other xo).trans (hk3.same _ _ hk2 rfl)⟩
      rintro e a3 W3 hp
      cases e with
      | normal =>
       obtain ⟨hk3, hkp3, hi3⟩ := hp
       obtain ⟨hr, hl3, hl4, hk4⟩ := fin none W3 hk3
       exact ⟨_, _, hr, .inl ⟨rfl, ⟨hI _ _ _ hi3 (Calm.putObj _ xo hl3 rfl), hl4, hk4⟩, hKt (hKt (hKt hkpa hw2) hkp3) (hKb _ _ _ _ xo hl3 rfl)⟩⟩
      | ret =>
       obtain ⟨hk3, hi3⟩ := hp
       obtain ⟨hr, hl3, hl4, hk4⟩ := fin (some .ret) W3 hk3
       exact ⟨_, _, hr, .inr ⟨rfl, .ret, hIx _ _ _ hi3 (Calm.putObj _ xo hl3 rfl), hl4, hk4⟩⟩
      | exit id =>
       obtain ⟨hk3, hi3⟩ := hp
       obtain ⟨hr, hl3, hl4, hk4⟩ := fin (some (.exit id)) W3 hk3
       exact ⟨_, _, hr, .inr ⟨rfl, .exit id, hIx _ _ _ hi3 (Calm.putObj _ xo hl3 rfl), hl4, hk4⟩⟩
      | goto t =>
       obtain ⟨hk3, hi3⟩ := hp
       obtain ⟨hr, hl3, hl4, hk4⟩ := fin (some (.goto t)) W3 hk3
       exact ⟨_, _, hr, .inr ⟨rfl, .goto t, hIx _ _ _ hi3 (Calm.putObj _ xo hl3 rfl), hl4, hk4⟩⟩
      | panic ch => exact hp.elim
      | outgrown => exact hp.elim
     | ret => exact hq.elim
     | exit id => exact hq.elim
     | goto t => exact hq.elim
     | panic ch => exact hq.elim
     | outgrown => exact hq.elim
   · -- behind the iterator
     rintro e W2 ⟨⟨v, rfl⟩, (⟨hi, hl, hk⟩ | ⟨k, _, c, hi, hl, hk⟩)⟩
     · exact (hno _ hi).elim
     · exact ⟨some c, _, by have := run_endLoop (P := P) hl (by rw [hrec]; simp); rw [hrec] at this; exact this, wpIn_wide.2 (hstop _ c _ (Nat.le_refl _) (hIx _ _ _ hi (Calm.putObj _ xo hl rfl)) ((World.putObj_heap_other xo).trans hk))⟩
end
section
def lay (L r : Nat) : List Nat :=
  if h : L ≤ 1 then [r] else lay (L / 2) r ++ (List.range (2 ^ (L / 2))).flatMap fun i => lay (L - L / 2) (r * 2 ^ (L / 2) + i)
termination_by L
decreasing_by all_goals omega
end
section
open Go.RowKit
def flat2 (a b : Nat → Int) (M : Nat) : List Int := (List.range (M * 2)).map fun k => if k % 2 = 0 then a (k / 2) else b (k / 2)
variable {a b c a' b' c' : Nat → Int} {M i : Nat} {v : Int}
theorem set_getD {xs : List Int} {j k : Nat} {v : Int} (hk : k < xs.length) : (xs.set j v).getD k 0 = if j = k then v else xs.getD k 0 := by
 simp only [List.getD_eq_getElem?_getD, List.getElem?_set]
 by_cases e : j = k
 · subst e; simp [hk]
 · simp [e]
theorem own_cell {k : IntKind} {w : World} {B g n cap s : Nat} {e : TypeId} {xs : List Int} (h : w.ownsRow B e s (.slice (some ⟨g, 0, none⟩) n cap) n (xs.map (Value.int k))) {j : Nat} (hj : j < xs.length) :
    w.cell? ⟨g, j, none⟩ = some (.int k (xs.getD j 0)) ∧ w.frozen? ⟨g, j, none⟩ = false := by
 have hl : xs.length = n * s := by have := h.1; simpa using this
 refine ⟨?_, h.frozenAt j⟩
 rw [h.cellAt j xo, List.getElem?_map, List.getElem?_eq_getElem hj]
 simp [List.getD_eq_getElem?_getD, hj]
theorem own_set {k : IntKind} {w : World} {B g n cap s : Nat} {e : TypeId} {xs : List Int} (h : w.ownsRow B e s (.slice (some ⟨g, 0, none⟩) n cap) n (xs.map (Value.int k))) (j : Nat) (y : Int) :
    (w.setCell ⟨g, j, none⟩ (.int k y)).ownsRow B e s (.slice (some ⟨g, 0, none⟩) n cap) n ((xs.set j y).map (Value.int k)) := by
 have := (h.stored j (.int k y)).1
 rw [List.map_set]
 exact this
theorem made_flat2 (n : Nat) : (madeCells #[Value.int .i64 0, .int .i64 0] (n * 2)).toList = (flat2 (fun _ => 0) (fun _ => 0) n).map (Value.int .i64) := by
 refine List.ext_getElem (by simp [madeCells, flat2]) fun k h1 h2 => ?_
 have h3 : k % 2 = 0 ∨ k % 2 = 1 := xo
 rcases h3 with h3 | h3 <;> simp [madeCells, flat2, h3]
end
section
open Go.RowKit
def ownB (m c : Int) : Bool := decide (0 ≤ c) && decide (c ≤ 65536) && (decide (c ≠ 0) || decide (m = 0))
def abM (am bm bc : Int) : Int := if 0 < bc then bm else am
def abC (ac bc : Int) : Int := if 0 < bc then ac + bc else ac
def joinR (m c am ac bm bc : Int) : Bool := decide (0 ≤ ac) && decide (0 ≤ bc) && decide (ac ≤ c) && decide (bc = c - ac) && (decide (m = abM am bm bc) && decide (c = abC ac bc)) && (decide (ac = 0) || decide (bc = 0) || decide (am < bm))
def ixFit (l : Int) (ms cs : List Int) : Prop := 1 ≤ l ∧ l ≤ 14 ∧ ms.length = 2 ^ l.toNat - 1 ∧ cs.length = 2 ^ l.toNat - 1
instance (l : Int) (ms cs : List Int) : Decidable (ixFit l ms cs) := by unfold ixFit; infer_instance
end
section
end
section
open Go.RowKit
end
section
open Go.RowKit
end
section
open Go.RowKit
end
section
open Go.RowKit
end
section
open Go.RowKit
end
section
open Go.RowKit Go.Shelf
attribute [local go_sem] Oper.semAt_some
end
section
open Go.RowKit
end
section
open Go.RowKit
end
section
open Go.RowKit
end
section
open Go.RowKit
end
section
open Go.RowKit
end
section
open Go.RowKit
end
section
open Go.RowKit
end
section
open Go.RowKit Go.Shelf
attribute [local go_sem] Oper.semAt_some
def Fact.full {T : TypeId} (base : Nat) (e : TypeId) (he : e ≠ T) (n : Nat) (xs : List Value) : Fact T :=
  ⟨fun v w => ∃ g, v = .slice (some ⟨g, 0, none⟩) n n ∧ w.ownsRow base e 1 (.slice (some ⟨g, 0, none⟩) n n) n xs, fun _ _ _ h ⟨g, e1, k⟩ => ⟨g, e1, h.owns he k⟩⟩
theorem wp_make {P : Program} {w : World} {o : Oper} {a : Act} {K : Act → World → Prop} {Q : Exit → Act → World → Prop} (l c : Operand) (t e : TypeId) (z : Value) (size bytes : Nat)
    (ht : P.underlying t = some (.slice e)) (hinfo : (P.info? e).map (fun i => (i.zero, i.size, i.bytes)) = some (some z, size, bytes)) (hbytes : bytes ≤ 1024)
    (B n : Nat) (N : Int) (hN : N = n) (hlen : n ≤ 4294967296) (hbase : B ≤ w.heap.size)
    (ho : o.op = Op.makeSlice t l c) (hl : a.eval l = .int .i64 N) (hc : a.eval c = .int .i64 N)
    (h : ∀ g w', w.heap.size ≤ g → w'.ownsRow B e size (.slice (some ⟨g, 0, none⟩) n n) n (madeCells z.cells (n * size)).toList → Below w.heap.size w w' → K (a.put o.dst (.slice (some ⟨g, 0, none⟩) n n)) w') :
    Oper.wp P o a w K Q := by
 obtain ⟨i0, hi, hz0, hz1, hz2⟩ := info_parts hinfo
 obtain ⟨w', hrun, r1, r2⟩ := run_make_full (P := P) w B t e i0 z size ht hi hz0 hz1 .i64 .i64 n (by rw [hz2]; exact Nat.le_trans (Nat.mul_le_mul hbytes hlen) (by decide)) (by unfold maxLen; omega) hbase
 subst hN
 unfold Oper.wp
 simp [execOp, ho, hl, hc, hrun, Result.andThen]
 exact h w.heap.size w' (Nat.le_refl _) r1 ((Below.refl _ _).grown r2 (Nat.le_refl _) (fun k hk => by cases hk))
end
section
open Go.RowKit Go.Shelf
attribute [local go_sem] Oper.semAt_some
end
section
open Go.RowKit Go.Shelf
attribute [local go_sem] Oper.semAt_some
structure FactR (R : World → World → Prop) where
 holds : Value → World → Prop
 stays : ∀ v w w', R w w' → holds v w → holds v w'
def FactR.any (R : World → World → Prop) : FactR R := ⟨fun _ _ => True, fun _ _ _ _ _ => trivial⟩
def FactR.is {R : World → World → Prop} (x : Value) : FactR R := ⟨fun v _ => v = x, fun _ _ _ _ h => h⟩
def FactR.now {R : World → World → Prop} (S : World → Prop) (h : ∀ w w', R w w' → S w → S w') : FactR R := ⟨fun _ w => S w, fun _ w w' hr h1 => h w w' hr h1⟩
def factRAt {R : World → World → Prop} (fs : List (FactR R)) (k : Nat) (v : Value) (w : World) : Prop := (fs.getD k (FactR.any R)).holds v w
theorem factRAt_stays {R : World → World → Prop} (fs : List (FactR R)) (k : Nat) (v : Value) (w w' : World) (h : R w w') : factRAt fs k v w → factRAt fs k v w' := (fs.getD k (FactR.any R)).stays _ _ _ h
def JB (g : Nat) (X : World) (old new : World → Prop) (w' : World) : Prop := (∀ q, q ≠ g → w'.heap[q]? = X.heap[q]?) ∧ w'.heap.size = X.heap.size ∧ (w'.os = X.os ∧ w'.tape = X.tape ∧ w'.output = X.output) ∧ (old w' ∨ new w')
end
section
open Go.RowKit
end
section
open Go.RowKit
end
section
open Go.RowKit Go.Shelf
attribute [local go_sem] Oper.semAt_some
end
section
open Go.RowKit
end
section
open Go.RowKit
theorem info4_uint64 : (Tryd.prog.info? 27).map (fun i => (i.zero, i.size, i.bytes)) = some (some (.int .u64 0), 1, 8) := by kernel_rfl
theorem info4_int64 : (Tryd.prog.info? 2).map (fun i => (i.zero, i.size, i.bytes)) = some (some (.int .i64 0), 1, 8) := by kernel_rfl
theorem info4_int : (Tryd.prog.info? 3).map (fun i => (i.zero, i.size, i.bytes)) = some (some (.int .i64 0), 1, 8) := by kernel_rfl
theorem row_news' {k : IntKind} {w : World} {a : Option Addr} {xs : List Int} (h : IsRow k w a xs) (ad : Addr) (ha : a = some ad) : ∀ j u, (xs.map (Value.int k))[j]? = some u → w.cell? (ad.add j) = some u := by
 subst ha
 exact fun j u hj => row_news h ad rfl j u hj
def FreshSlN (w : World) (c : SlC) (e : Ending) (w' : World) : Prop :=
  ∃ v1 v2 v3 v4, e = .returned (.agg #[.int .i64 c.seg, v1, v2, v3, v4, .int .u64 c.laid]) ∧ w'.ownsRow w.heap.size 27 1 v1 c.ws.length (c.ws.map (Value.int .u64)) ∧ w'.ownsRow w.heap.size 2 1 v2 c.ks.length (c.ks.map (Value.int .i64)) ∧ w'.ownsRow w.heap.size 2 1 v3 c.vs.length (c.vs.map (Value.int .i64)) ∧ w'.ownsRow w.heap.size 3 1 v4 c.cs.length (c.cs.map (Value.int .i64)) ∧ Below w.heap.size w w' ∧ ∀ p q, v2.ownBlock = some p → v3.ownBlock = some q → p ≠ q
theorem six_at {w : World} {b : Nat} {x y z p q r : Value} (h0 : w.cell? ⟨b, 0, none⟩ = some x) (h1 : w.cell? ⟨b, 1, none⟩ = some y) (h2 : w.cell? ⟨b, 2, none⟩ = some z) (h3 : w.cell? ⟨b, 3, none⟩ = some p) (h4 : w.cell? ⟨b, 4, none⟩ = some q) (h5 : w.cell? ⟨b, 5, none⟩ = some r) : ∀ j v, [x, y, z, p, q, r][j]? = some v → w.cell? ⟨b, j, none⟩ = some v := by
 intro j v hj
 match j with
 | 0 => simp at hj; rw [← hj]; exact h0
 | 1 => simp at hj; rw [← hj]; exact h1
 | 2 => simp at hj; rw [← hj]; exact h2
 | 3 => simp at hj; rw [← hj]; exact h3
 | 4 => simp at hj; rw [← hj]; exact h4
 | 5 => simp at hj; rw [← hj]; exact h5
 | n + 6 => simp at hj
theorem set_keep {w : World} {a b : Addr} {v u : Value} (h : a ≠ b) (hc : w.cell? a = some u) : (w.setCell b v).cell? a = some u := (World.cell?_setCell_other _ _ _ _ (by intro e; exact h (by rw [e]))).trans hc
theorem six_set {w : World} {b : Nat} {x y z p q r x' y' z' p' q' r' : Value} (h0 : w.cell? ⟨b, 0, none⟩ = some x') (h1 : w.cell? ⟨b, 1, none⟩ = some y') (h2 : w.cell? ⟨b, 2, none⟩ = some z') (h3 : w.cell? ⟨b, 3, none⟩ = some p') (h4 : w.cell? ⟨b, 4, none⟩ = some q') (h5 : w.cell? ⟨b, 5, none⟩ = some r') :
    ∀ j v, [x, y, z, p, q, r][j]? = some v → ((((((w.setCell ⟨b, 0, none⟩ x).setCell ⟨b, 1, none⟩ y).setCell ⟨b, 2, none⟩ z).setCell ⟨b, 3, none⟩ p).setCell ⟨b, 4, none⟩ q).setCell ⟨b, 5, none⟩ r).cell? ⟨b, j, none⟩ = some v := by
 refine six_at ?_ ?_ ?_ ?_ ?_ ?_
 · exact set_keep (by simp) (set_keep (by simp) (set_keep (by simp) (set_keep (by simp) (set_keep (by simp) (World.cell?_setCell_same _ _ _ h0)))))
 · exact set_keep (by simp) (set_keep (by simp) (set_keep (by simp) (set_keep (by simp) (World.cell?_setCell_same _ _ _ (set_keep (by simp) h1)))))
 · exact set_keep (by simp) (set_keep (by simp) (set_keep (by simp) (World.cell?_setCell_same _ _ _ (set_keep (by simp) (set_keep (by simp) h2)))))
 · exact set_keep (by simp) (set_keep (by simp) (World.cell?_setCell_same _ _ _ (set_keep (by simp) (set_keep (by simp) (set_keep (by simp) h3)))))
 · exact set_keep (by simp) (World.cell?_setCell_same _ _ _ (set_keep (by simp) (set_keep (by simp) (set_keep (by simp) (set_keep (by simp) h4)))))
 · exact World.cell?_setCell_same _ _ _ (set_keep (by simp) (set_keep (by simp) (set_keep (by simp) (set_keep (by simp) (set_keep (by simp) h5)))))
end
section
open Go.RowKit
abbrev RB : World → World → Prop := fun w w' => Below w.heap.size w w'
def FactR.sl (base : Nat) (c : SlC) : FactR RB :=
  ⟨fun v w => ∃ v1 v2 v3 v4, v = .agg #[.int .i64 c.seg, v1, v2, v3, v4, .int .u64 c.laid] ∧ w.ownsRow base 27 1 v1 c.ws.length (c.ws.map (Value.int .u64)) ∧ w.ownsRow base 2 1 v2 c.ks.length (c.ks.map (Value.int .i64)) ∧ w.ownsRow base 2 1 v3 c.vs.length (c.vs.map (Value.int .i64)) ∧ w.ownsRow base 3 1 v4 c.cs.length (c.cs.map (Value.int .i64)),
    fun _ _ _ h ⟨v1, v2, v3, v4, e, h1, h2, h3, h4⟩ => ⟨v1, v2, v3, v4, e, owns_below h1 h, owns_below h2 h, owns_below h3 h, owns_below h4 h⟩⟩
def FactR.box (base : Nat) (t : TypeId) (n : Nat) : FactR RB :=
  ⟨fun v w => ∃ b cs, v = .pointer (some ⟨b, 0, none⟩) ∧ base ≤ b ∧ w.heap[b]? = some (.cells cs t (0, 0)) ∧ cs.size = n, fun _ _ _ h ⟨b, cs, e, hb, hh, hn⟩ => ⟨b, cs, e, hb, (h.block b (Array.getElem?_eq_some_iff.1 hh).1).trans hh, hn⟩⟩
theorem row_apart {w : World} {b : Nat} {cs : Array Value} {t e : TypeId} {B s n : Nat} {v : Value} {xs : List Value} (h : w.heap[b]? = some (.cells cs t (0, 0))) (ho : w.ownsRow B e s v n xs) (hne : e ≠ t) : ∀ k, v.ownBlock = some k → k ≠ b := by
 intro k hk
 obtain ⟨_, ⟨rfl, _⟩ | ⟨g', c', cur', rfl, _, hh, _⟩⟩ := ho
 · cases hk
 · cases hk
   exact fun e => by subst e; rw [h] at hh; cases hh; exact hne rfl
end
end Go.Proofs.YtookgoidlnlckaaDoor
