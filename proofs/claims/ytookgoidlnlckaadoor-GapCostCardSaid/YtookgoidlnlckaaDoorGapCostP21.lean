/- Merged: RangeE, Path. -/
import Derived.Test.YtookgoidlnlckaaDoorGapCostP4
import Derived.Test.YtookgoidlnlckaaDoorGapCostP17
import Derived.Test.YtookgoidlnlckaaDoorGapCostP13
import Derived.Test.YtookgoidlnlckaaDoorGapCostP19
namespace Go.Proofs.YtookgoidlnlckaaDoor
set_option maxRecDepth 100000
set_option maxHeartbeats 40000000
set_option linter.unusedVariables false
set_option linter.unusedSimpArgs false
section
open Go.RowKit
def IterE (P : Program) (gf : Nat) (lb : Array Value) (xs : List (Array Value)) (Kp : World → World → Prop) (w : World) : Prop :=
  ∀ (l : Nat) (J Jx : Nat → World → Prop) (W : World), Below w.heap.size w W → (∀ W1, ¬ J xs.length W1) →
    (∀ k W1 W2, J k W1 → Below W1.heap.size W1 W2 → J k W2) → (∀ k W1 W2, Jx k W1 → Below W1.heap.size W1 W2 → Jx k W2) →
    (∀ k W1, k < xs.length → J k W1 → YieldAt Fence.wide 0 P l (xs.getD k #[]) W1 fun e W' =>
     (e = .returned (.bool true) ∧ J (k + 1) W' ∧ Kp W1 W') ∨ (e = .returned (.bool false) ∧ Jx (k + 1) W')) →
    J 0 W →
    CallsIn Fence.wide 0 P gf (#[.func (.yield l) #[] #[]] ++ lb) W fun e W' => (∃ v, e = .returned v) ∧ (J xs.length W' ∨ ∃ k, k ≤ xs.length ∧ Jx k W')
theorem wp_range_e {P : Program} {g : Operand} {ps : Array Tmp} {assign body : Code} {Q : Exit → Act → World → Prop} {a : Act} {w : World}
    {gf : Nat} {lb : Array Value} (hg : a.eval g = .func (.func gf) #[] lb) (eg : ∀ args w, (callFunc gf args).run P w = .ok (.enter gf args) w)
    {xs : List (Array Value)} {Kp : World → World → Prop} {w0 : World} (hseq : IterE P gf lb xs Kp w0) (hb0 : Below w0.heap.size w0 w)
    (hKt : ∀ {A B C : World}, Kp A B → Kp B C → Kp A C) (hKb : ∀ (W : World) (l : Nat) (o o' : Obj), w.heap.size ≤ l → W.heap[l]? = some o → o.isCells = false → Kp W (W.putObj l o'))
    (hps : ∀ x ∈ xs, x.size = ps.size)
    (I : Nat → World → Prop) (Ix : Code → World → Prop) (hI : ∀ k W W', I k W → Calm w.heap.size W W' → I k W') (hIx : ∀ c W W', Ix c W → Calm w.heap.size W W' → Ix c W') (h0 : I 0 w)
    (hround : ∀ (l k : Nat) (W : World), w.heap.size ≤ l → k < xs.length → I k W →
      assign.wpIn (inRd l) 0 P (Exit.then (BodyOkW P l body w.heap.size Kp I Ix k W) (fun _ _ _ => False))
        { tmps := (ps.zip (xs.getD k #[])).foldl (fun t (p, v) => t.setIfInBounds p v) a.tmps, defers := [] } W)
    (hno : ∀ W, ¬ I xs.length W)
    (hstop : ∀ (D : Nat) (c : Code) (W : World), w.heap.size ≤ D → Ix c W → W.heap[D]? = some (.deferred (some [])) → c.wp P Q { a with defers := { target := .collected D, args := #[] } :: a.defers } W) :
    (Code.rangeFunc g ps assign body).wp P Q a w := by
 refine wpIn_wide (n := 0).1 (wpIn_rangeFunc ?_)
 intro fn hfn
 obtain ⟨rec, hrec⟩ : ∃ rec : LoopState → Option Code → Loop, rec = fun st pe => { state := st, pending := pe, fn, tmps := a.tmps, params := ps, assign, body, defers := w.heap.size } := ⟨_, rfl⟩
 obtain ⟨W1, hW1⟩ : ∃ W1, (w.alloc (.deferred (some []))).alloc (.loop (rec .ready none)) = W1 := ⟨_, rfl⟩
 have hL1 : W1.heap[w.heap.size + 1]? = some (.loop (rec .ready none)) := by
  rw [← hW1]; have := World.alloc_heap_new (w.alloc (.deferred (some []))) (.loop (rec .ready none)); rwa [World.size_alloc] at this
 have hK1 : W1.heap[w.heap.size]? = some (.deferred (some [])) := by
  rw [← hW1]; exact (Below.heap_alloc _ _ _ (by simp)).trans (World.alloc_heap_new w _)
 have hI1 : I 0 W1 := by rw [← hW1]; exact hI _ _ _ h0 ((Calm.alloc _ (Nat.le_refl _)).trans (Calm.alloc _ (by simp)))
 have hb1 : Below w0.heap.size w0 W1 := by
  rw [← hW1]; exact hb0.trans ((((Below.refl _ w).alloc (Nat.le_refl _) _).alloc (by simp) _).mono hb0.size)
 have calmOf : ∀ {A C : World}, w.heap.size ≤ A.heap.size → Below A.heap.size A C → Calm w.heap.size A C := fun hs hb =>
  ⟨hb.os, hb.tape, hb.output, hb.size, fun k hk => hb.block k xo, fun k o hk _ => (hb.block k (Array.getElem?_eq_some_iff.1 hk).1).trans hk⟩
 refine ⟨w.heap.size + 1, [{ target := .collected w.heap.size, args := #[] }], W1, { target := .fn (.func gf) lb, args := #[.func (.yield (w.heap.size + 1)) #[] #[]] }, W1, gf,
   #[.func (.yield (w.heap.size + 1)) #[] #[]] ++ lb, W1, ?_, ?_, fun _ _ => trivial, ?_, fun h => (by cases h), ?_⟩
 · rw [← hW1, hrec]; exact run_enterLoop_outer _ _ _ _ _
 · simp only [resolve, hg]
   simp [go_sem]
 · simp [invoke, go_sem, eg]
 · refine (hseq (w.heap.size + 1)
     (fun k W => I k W ∧ W.heap[w.heap.size + 1]? = some (.loop (rec .ready none)) ∧ W.heap[w.heap.size]? = some (.deferred (some [])))
     (fun _ W => ∃ c, Ix c W ∧ W.heap[w.heap.size + 1]? = some (.loop (rec .done (some c))) ∧ W.heap[w.heap.size]? = some (.deferred (some [])))
     W1 hb1 (fun W h => hno W h.1) ?_ ?_ ?_ ⟨hI1, hL1, hK1⟩).mono ?_
   · rintro k A C ⟨h1, h2, h3⟩ hb
     have l2 := (Array.getElem?_eq_some_iff.1 h2).1
     exact ⟨hI _ _ _ h1 (calmOf xo hb), (hb.block _ l2).trans h2, (hb.block _ xo).trans h3⟩
   · rintro k A C ⟨c, h1, h2, h3⟩ hb
     have l2 := (Array.getElem?_eq_some_iff.1 h2).1
     exact ⟨c, hIx _ _ _ h1 (calmOf xo hb), (hb.block _ l2).trans h2, (hb.block _ xo).trans h3⟩
   · -- one round
     rintro k W hkl ⟨hi, hl, hk⟩
     have hlt : w.heap.size + 1 < W.heap.size := (Array.getElem?_eq_some_iff.1 hl).1
     have hsz : (xs.getD k #[]).size = ps.size := by
      rw [List.getD_eq_getElem?_getD, List.getElem?_eq_getElem hkl]; exact hps _ (List.getElem_mem _)
     have hy := run_yield (P := P) (args := xs.getD k #[]) hl (by rw [hrec]; exact hsz)
     rw [hrec] at hy
     refine ⟨fn, _, assign, body, hy, roundIn_of_wpIn trivial (wpIn_mono (hround _ k W xo hkl hi) ?_)⟩
     intro e a1 Wa hq
     cases e with
     | normal =>
      obtain ⟨hks, hkpa, hbody⟩ := hq
      have hl0 := hl
      have hlt0 := hlt
      replace hl : Wa.heap[w.heap.size + 1]? = some (.loop (rec .ready none)) := hks.same _ _ hl0 (by rfl)
      replace hk : Wa.heap[w.heap.size]? = some (.deferred (some [])) := hks.same _ _ hk (by rfl)
      replace hlt : w.heap.size + 1 < Wa.heap.size := (Array.getElem?_eq_some_iff.1 hl).1
      refine ⟨_, run_beginRound hl (by rw [hrec]), ?_⟩
      have hl2 : (Wa.putObj (w.heap.size + 1) (.loop { rec .ready none with state := .busy })).heap[w.heap.size + 1]? = some (.loop { rec .ready none with state := .busy }) := World.putObj_heap_same hlt
      have hk2 : (Wa.putObj (w.heap.size + 1) (.loop { rec .ready none with state := .busy })).heap[w.heap.size]? = some (.deferred (some [])) := (World.putObj_heap_other xo).trans hk
      have hw2 : Kp Wa (Wa.putObj (w.heap.size + 1) (.loop { rec .ready none with state := .busy })) := hKb _ _ _ _ xo hl rfl
      have hi2 : Calm w.heap.size Wa (Wa.putObj (w.heap.size + 1) (.loop { rec .ready none with state := .busy })) := Calm.putObj _ xo hl rfl
      refine wpIn_mono (hbody _ hi2) ?_
      have fin : ∀ (jump : Option Code) (W3 : World), KeepsOthers (Wa.putObj (w.heap.size + 1) (.loop { rec .ready none with state := .busy })) W3 →
          (Instr.endRound (w.heap.size + 1) jump).run P W3 = .ok (.bool jump.isNone) (W3.putObj (w.heap.size + 1) (.loop (rec (if jump.isNone then .ready else .done) jump))) ∧
          W3.heap[w.heap.size + 1]? = some (.loop { rec .ready none with state := .busy }) ∧
          (W3.putObj (w.heap.size + 1) (.loop (rec (if jump.isNone then .ready else .done) jump))).heap[w.heap.size + 1]? = some (.loop (rec (if jump.isNone then .ready else .done) jump)) ∧
          (W3.putObj (w.heap.size + 1) (.loop (rec (if jump.isNone then .ready else .done) jump))).heap[w.heap.size]? = some (.deferred (some [])) := fun jump W3 hk3 => by
       have hl3 := hk3.same _ _ hl2 rfl
       have := run_endRound (P := P) jump hl3
       rw [hrec] at this ⊢
       exact ⟨this, by rw [hrec] at hl3; exact hl3, World.putObj_heap_same (Array.getElem?_eq_some_iff.1 hl3).1, (World.putObj_heap_other xo).trans (hk3.same _ _ hk2 rfl)⟩
      rintro e a3 W3 hp
      cases e with
      | normal =>
       obtain ⟨hk3, hkp3, hi3⟩ := hp
       obtain ⟨hr, hl3, hl4, hk4⟩ := fin none W3 hk3
       exact ⟨_, _, hr, .inl ⟨rfl, ⟨hI _ _ _ hi3 (Calm.putObj _ xo hl3 rfl), hl4, hk4⟩, hKt (hKt (hKt hkpa hw2) hkp3) (hKb _ _ _ _ xo hl3 rfl)⟩⟩
      | ret =>
       obtain ⟨hk3, hi3⟩ := hp
       obtain ⟨hr, hl3, hl4, hk4⟩ := fin (some .ret) W3 hk3
       exact ⟨_, _, hr, .inr ⟨rfl, .ret, hIx _ _ _ hi3 (Calm.putObj _ xo hl3 rfl), hl4, hk4⟩⟩
      | exit id =>
       obtain ⟨hk3, hi3⟩ := hp
       obtain ⟨hr, hl3, hl4, hk4⟩ := fin (some (.exit id)) W3 hk3
       exact ⟨_, _, hr, .inr ⟨rfl, .exit id, hIx _ _ _ hi3 (Calm.putObj _ xo hl3 rfl), hl4, hk4⟩⟩
      | goto t =>
       obtain ⟨hk3, hi3⟩ := hp
       obtain ⟨hr, hl3, hl4, hk4⟩ := fin (some (.goto t)) W3 hk3
       exact ⟨_, _, hr, .inr ⟨rfl, .goto t, hIx _ _ _ hi3 (Calm.putObj _ xo hl3 rfl), hl4, hk4⟩⟩
      | panic ch => exact hp.elim
      | outgrown => exact hp.elim
     | ret => exact hq.elim
     | exit id => exact hq.elim
     | goto t => exact hq.elim
     | panic ch => exact hq.elim
     | outgrown => exact hq.elim
   · -- behind the iterator
     rintro e W2 ⟨⟨v, rfl⟩, (⟨hi, hl, hk⟩ | ⟨k, _, c, hi, hl, hk⟩)⟩
     · exact (hno _ hi).elim
     · exact ⟨some c, _, by have := run_endLoop (P := P) hl (by rw [hrec]; simp); rw [hrec] at this; exact this, wpIn_wide.2 (hstop _ c _ (Nat.le_refl _) (hIx _ _ _ hi (Calm.putObj _ xo hl rfl)) ((World.putObj_heap_other xo).trans hk))⟩
end
section
open Go.RowKit Go.Shelf
attribute [local go_sem] Oper.semAt_some
def winsL (a at_ N : Nat) : List (Int × Int) := (List.range N).map fun h => (((wnd a h at_ * 2 ^ (a + h) : Nat) : Int), ((wnd a h at_ * 2 ^ (a + h) : Nat) : Int) + ((2 ^ (a + h) : Nat) : Int))
theorem winsL_length (a at_ N : Nat) : (winsL a at_ N).length = N := by simp [winsL]
theorem winsL_succ (a at_ N : Nat) : winsL a at_ (N + 1) = winsL a at_ N ++ [(((wnd a N at_ * 2 ^ (a + N) : Nat) : Int), ((wnd a N at_ * 2 ^ (a + N) : Nat) : Int) + ((2 ^ (a + N) : Nat) : Int))] := by simp [winsL, List.range_succ]
theorem winsL_get {a at_ N i : Nat} (h : i < N) : (winsL a at_ N).getD i (0, 0) = (((wnd a i at_ * 2 ^ (a + i) : Nat) : Int), ((wnd a i at_ * 2 ^ (a + i) : Nat) : Int) + ((2 ^ (a + i) : Nat) : Int)) := by
 rw [List.getD_eq_getElem?_getD, winsL, List.getElem?_map, List.getElem?_range h]
 rfl
def winX (a at_ N : Nat) : List (Array Value) := (List.range N).map fun (h : Nat) => #[.int .i64 (h : Int), .agg #[.int .i64 ((wnd a h at_ * 2 ^ (a + h) : Nat) : Int), .int .i64 (((wnd a h at_ * 2 ^ (a + h) : Nat) : Int) + ((2 ^ (a + h) : Nat) : Int))]]
theorem winX_length (a at_ N : Nat) : (winX a at_ N).length = N := by simp [winX]
theorem winX_get {a at_ N i : Nat} (h : i < N) : (winX a at_ N).getD i #[] = #[.int .i64 (i : Int), .agg #[.int .i64 ((wnd a i at_ * 2 ^ (a + i) : Nat) : Int), .int .i64 (((wnd a i at_ * 2 ^ (a + i) : Nat) : Int) + ((2 ^ (a + i) : Nat) : Int))]] := by
 rw [List.getD_eq_getElem?_getD, winX, List.getElem?_map, List.getElem?_range h]
 rfl
theorem wnd_around {a h at_ : Nat} (hat : at_ ≤ 65536) (hah : a + h ≤ 16) (w : World) :
    Calls Tryd.prog 68 #[.int .i64 ((2 ^ (a + h) : Nat) : Int), .int .i64 at_] w (AnsB w (.agg #[.int .i64 ((wnd a h at_ * 2 ^ (a + h) : Nat) : Int), .int .i64 (((wnd a h at_ * 2 ^ (a + h) : Nat) : Int) + ((2 ^ (a + h) : Nat) : Int))])) := by
 have hp := Nat.two_pow_pos (a + h)
 have hb : 2 ^ (a + h) ≤ 2 ^ 16 := Nat.pow_le_pow_right xo hah
 have hd := Nat.div_mul_le_self at_ (2 ^ (a + h))
 have e := i64_andNot_pow (n := at_) (e := a + h) xo xo
 refine around_ok _ _ _ ?_ xo xo xo ?_ w
 · unfold wnd
   rw [← e]
   congr 1
   omega
 · unfold wnd; omega
theorem windows1_iter (a at_ N : Nat) (hat : at_ ≤ 65536) (hN : a + N ≤ 17) (S : Nat → Prop) (b1 b2 : Nat) (s1 : S b1) (s2 : S b2) (w : World) (c1 : w.cell? ⟨b1, 0, none⟩ = some (.int .i64 ((2 ^ a : Nat) : Int))) (c2 : w.cell? ⟨b2, 0, none⟩ = some (.int .i64 at_)) :
    IterE Tryd.prog 76 #[.pointer (some ⟨b1, 0, none⟩), .pointer (some ⟨b2, 0, none⟩)] (winX a at_ N) (KpS S) w := by
 intro l J Jx W hW hno hJ hJx hY h0
 have HY := hid hY
 have HJ := hid hJ
 have HNO := hid hno
 have HLN := hid (winX_length a at_ N)
 have HGT := hid (fun k (h : k < N) => winX_get (a := a) (at_ := at_) h)
 have AR0 := hid (fun h (hh : h < N) W => wnd_around (a := a) (h := h) hat xo W)
 have HSH := hid (fun h (hh : h < N) => (show IntKind.i64.wrap (((2 ^ a : Nat) : Int) * 2 ^ h) = ((2 ^ (a + h) : Nat) : Int) by
  have hb : 2 ^ (a + h) ≤ 2 ^ 17 := Nat.pow_le_pow_right xo xo
  have e : ((2 ^ a : Nat) : Int) * 2 ^ h = ((2 ^ (a + h) : Nat) : Int) := by rw [Nat.pow_add]; push_cast; rfl
  rw [e]
  generalize 2 ^ (a + h) = P at hb
  exact IntWalk.i64_in _ xo))
 have hc1 : W.cell? ⟨b1, 0, none⟩ = some (.int .i64 ((2 ^ a : Nat) : Int)) := (hW.cell (p := ⟨b1, 0, none⟩) (World.block_lt_of_cell? _ _ c1)).trans c1
 have hc2 : W.cell? ⟨b2, 0, none⟩ = some (.int .i64 at_) := (hW.cell (p := ⟨b2, 0, none⟩) (World.block_lt_of_cell? _ _ c2)).trans c2
 have HH0 := hid h0
 clear hY hJ hJx hno h0 c1 c2
 generalize winX a at_ N = xs at *
 generalize ((2 ^ a : Nat) : Int) = sg at *
 refine callsIn_of_wp Tryd.func76 rfl trivial ?_ rfl
 simp only [Tryd.ntmps76, List.size_toArray, List.length_cons, List.length_nil, Nat.reduceAdd, Nat.reduceSub, Array.replicate_succ, Array.replicate_zero, List.push_toArray, List.append_toArray, List.nil_append, List.cons_append]
 gi_wp2
 gi_loopg [4] N (fun g iv wr => ∃ i : Nat, i + g = N ∧ iv = .int .i64 i ∧ Hid (J i wr) ∧ wr.cell? ⟨b1, 0, none⟩ = some (.int .i64 sg) ∧ wr.cell? ⟨b2, 0, none⟩ = some (.int .i64 at_))
 case atStart => exact ⟨0, by omega, rfl, HH0, hc1, hc2⟩
 case round =>
  obtain ⟨i, hi', rfl, HJ0, q1, q2⟩ := hrel
  clear HH0 hc1 hc2
  by_cases hlt : i < N
  · have AR := hid (AR0.out i hlt)
    have hsh := HSH.out i hlt
    have hpa := HGT.out i hlt
    generalize ((2 ^ (a + i) : Nat) : Int) = ww at *
    generalize ((wnd a i at_ * 2 ^ (a + i) : Nat) : Int) = lo at *
    have hsd : decide (i < 64) = true := by simp; omega
    have HI2 := hid hi'
    clear hi'
    gi_wp2
    refine wpIn_region_facts 7 xk (N := 15) rfl xk xk (by decide) (fun w' => Below wr.heap.size wr w') (Ext 26) (factAt [.is (.func (.yield l) #[] #[]), .is (.int .i64 i), .is (.int .i64 sg), .is (.int .i64 i), .is (.int .i64 ww), .is (.int .i64 at_), .is (.agg #[.int .i64 lo, .int .i64 (lo + ww)])]) (factAt_stays _) (Below.refl _ _).drew ?steps ?fin
    case steps =>
     refine ⟨?o0, ?o1, ?o2, ?o3, ?o4, ?o5, ?o6, trivial⟩
     case o0 =>
      intro u a w' ev hJ hd K hK
      rw [if_pos (wanted_free rfl)]
      have e0 : a.tmps.getD 0 undef = .func (.yield l) #[] #[] := ev 0 (by decide)
      have HK := hid hK
      clear hK ev hd
      go_simp
      exact HK.out _ _ (fun h => by cases h) hJ rfl (Ext.refl _ _)
     case o1 =>
      intro u a w' ev hJ hd K hK
      rw [if_pos (wanted_free rfl)]
      have e4 : a.tmps.getD 4 undef = .int .i64 i := ev 4 (by decide)
      have HK := hid hK
      clear hK ev hd
      go_simp
      exact HK.out _ _ (fun h => by cases h) hJ rfl (Ext.refl _ _)
     case o2 =>
      intro u a w' ev hJ hd K hK
      rw [if_pos (wanted_free rfl)]
      have e1 : a.tmps.getD 1 undef = .pointer (some ⟨b1, 0, none⟩) := ev 1 (by decide)
      have g0 := ((hJ.cell (p := ⟨b1, 0, none⟩) (World.block_lt_of_cell? _ _ q1)).trans q1)
      have HK := hid hK
      clear hK ev hd
      go_simp
      exact HK.out _ _ (fun h => by cases h) hJ rfl (Ext.refl _ _)
     case o3 =>
      intro u a w' ev hJ hd K hK
      rw [if_pos (wanted_free rfl)]
      have e4 : a.tmps.getD 4 undef = .int .i64 i := ev 4 (by decide)
      have HK := hid hK
      clear hK ev hd
      go_simp
      exact HK.out _ _ (fun h => by cases h) hJ rfl (Ext.refl _ _)
     case o4 =>
      intro u a w' ev hJ hd K hK
      rw [if_pos (wanted_free rfl)]
      have e7 : a.tmps.getD 7 undef = .int .i64 sg := (ev 7 (by decide)).trans (hd 2 _ xk rfl)
      have e8 : a.tmps.getD 8 undef = .int .i64 i := (ev 8 (by decide)).trans (hd 3 _ xk rfl)
      have HK := hid hK
      clear hK ev hd
      go_simp
      exact HK.out _ _ (fun h => by cases h) hJ rfl (Ext.refl _ _)
     case o5 =>
      intro u a w' ev hJ hd K hK
      rw [if_pos (wanted_free rfl)]
      have e2 : a.tmps.getD 2 undef = .pointer (some ⟨b2, 0, none⟩) := ev 2 (by decide)
      have g0 := ((hJ.cell (p := ⟨b2, 0, none⟩) (World.block_lt_of_cell? _ _ q2)).trans q2)
      have HK := hid hK
      clear hK ev hd
      go_simp
      exact HK.out _ _ (fun h => by cases h) hJ rfl (Ext.refl _ _)
     case o6 =>
      intro u a w' ev hJ hd K hK
      rw [if_pos (wanted_free rfl)]
      have e9 : a.tmps.getD 9 undef = .int .i64 ww := (ev 9 (by decide)).trans (hd 4 _ xk rfl)
      have e10 : a.tmps.getD 10 undef = .int .i64 at_ := (ev 10 (by decide)).trans (hd 5 _ xk rfl)
      have HK := hid hK
      have HJJ := hid hJ
      clear hK ev hd hJ
      go_simp
      refine ⟨trivial, rfl, (callsIn_wide.2 (AR.out _)).mono ?_⟩
      rintro e w'' ⟨rfl, hb⟩
      exact HK.out _ _ (fun h => by cases h) (HJJ.out.trans (hb.mono HJJ.out.size)) rfl (Ext.below hb)
    case fin =>
     intro u w3 hBq hG
     have h5 : u 5 = .func (.yield l) #[] #[] := hG 0 _ rfl
     have h6 : u 6 = .int .i64 i := hG 1 _ rfl
     have h11 : u 11 = .agg #[.int .i64 lo, .int .i64 (lo + ww)] := hG 6 _ rfl
     have k1 : w3.cell? ⟨b1, 0, none⟩ = some (.int .i64 sg) := (hBq.cell (p := ⟨b1, 0, none⟩) (World.block_lt_of_cell? _ _ q1)).trans q1
     have k2 : w3.cell? ⟨b2, 0, none⟩ = some (.int .i64 at_) := (hBq.cell (p := ⟨b2, 0, none⟩) (World.block_lt_of_cell? _ _ q2)).trans q2
     obtain ⟨fn, tmps, assign, body, hy, hR⟩ := HY.out i w3 (by rw [HLN.out]; exact hlt) (HJ.out _ _ _ HJ0.out hBq)
     rw [hpa] at hy
     clear hG hpa hBq q1 q2
     simp only [mixFrame, mixL, dstsOf, List.take_succ_cons, List.take_zero, List.filterMap_cons, List.filterMap_nil, List.contains_cons, List.contains_nil, Nat.reduceBEq, Bool.or_false, Bool.false_or, Bool.or_true, Bool.true_or, if_true, if_false, Bool.false_eq_true, Nat.reduceAdd, Nat.zero_add, List.drop_succ_cons, List.drop_zero, h5, h6, h11]
     gi_wp2
     refine ⟨rfl, hR.mono ?_⟩
     rintro e W3 (⟨rfl, hJ3, hk3⟩ | ⟨rfl, hJx3⟩)
     · have m1 : W3.cell? ⟨b1, 0, none⟩ = some (.int .i64 sg) := hk3.cell (a := ⟨b1, 0, none⟩) s1 k1
       have m2 : W3.cell? ⟨b2, 0, none⟩ = some (.int .i64 at_) := hk3.cell (a := ⟨b2, 0, none⟩) s2 k2
       have HJ3 := hid hJ3
       clear hJ3 hk3 hy hR k1 k2
       gi_wp2
       gi_roundg (gk - 1)
       case measure => have := HI2.out; omega
       case rel => exact ⟨i + 1, by have := HI2.out; omega, by go_num, HJ3, m1, m2⟩
     · have HJ3 := hid hJx3
       clear hJx3 hy hR
       gi_wp2
       exact bodyPost_end (results_none rfl _ _ _) rfl ⟨⟨_, rfl⟩, .inr ⟨i + 1, by rw [HLN.out]; omega, HJ3.out⟩⟩
  · exfalso
    have him : i = N := xo
    subst him
    exact HNO.out _ (by rw [HLN.out]; exact HJ0.out)
theorem windows_ok (sg at_ : Int) (w : World) :
    Calls Tryd.prog 58 #[.int .i64 sg, .int .i64 at_] w fun e w' => e = .returned (.func (.func 76) #[] #[.pointer (some ⟨w.heap.size, 0, none⟩), .pointer (some ⟨w.heap.size + 1, 0, none⟩)]) ∧
      w' = (w.alloc (.cells #[.int .i64 sg] 3)).alloc (.cells #[.int .i64 at_] 3) := by
 go_enter Tryd.func58, Tryd.ntmps58
 go_wp2
 go_ret
 exact ⟨rfl, rfl⟩
structure PathI (a at_ H B : Nat) (w : World) (k : Nat) (W : World) : Prop where
 le : k ≤ H
 own : ∃ v, W.cell? ⟨B, 0, none⟩ = some v ∧ W.ownsRow (B + 5) 58 2 v k ((prI (winsL a at_ k)).map (Value.int .i64))
 fz : W.frozen? ⟨B, 0, none⟩ = false
 hh : W.cell? ⟨B + 2, 0, none⟩ = some (.int .i64 H)
 sz : B + 5 ≤ W.heap.size
 bel : Below B w W
theorem PathI.calm {a at_ H B M : Nat} {w : World} {k : Nat} {W W' : World} (h : PathI a at_ H B w k W) (hc : Calm M W W') (hB : B ≤ M) : PathI a at_ H B w k W' := by
 obtain ⟨h0, ⟨v, h1, h2⟩, h3, h5, h6, h4⟩ := h
 exact ⟨h0, ⟨v, hc.cell h1, hc.owns h2⟩, hc.frozen h1 h3, hc.cell h5, Nat.le_trans h6 hc.size, hc.below hB h4⟩
structure PathX (a at_ H B : Nat) (w : World) (c : Code) (W : World) : Prop where
 code : c = .exit 0
 own : ∃ v, W.cell? ⟨B, 0, none⟩ = some v ∧ W.ownsRow (B + 5) 58 2 v (H + 1) ((prI (winsL a at_ (H + 1))).map (Value.int .i64))
 fz : W.frozen? ⟨B, 0, none⟩ = false
 bel : Below B w W
theorem PathX.calm {a at_ H B M : Nat} {w : World} {c : Code} {W W' : World} (h : PathX a at_ H B w c W) (hc : Calm M W W') (hB : B ≤ M) : PathX a at_ H B w c W' := by
 obtain ⟨h0, ⟨v, h1, h2⟩, h3, h4⟩ := h
 exact ⟨h0, ⟨v, hc.cell h1, hc.owns h2⟩, hc.frozen h1 h3, hc.below hB h4⟩
theorem one_row {W : World} {b : Nat} {x : Int} (h : W.cell? ⟨b, 0, none⟩ = some (.int .i64 x)) : IsRow .i64 W (some ⟨b, 0, none⟩) [x] := by
 intro i hi
 have : i = 0 := by simpa using hi
 subst this
 exact ⟨b, 0, rfl, World.block_lt_of_cell? _ _ h, fun j hj => by have : j = 0 := by simpa using hj
                                                                 subst this
                                                                 exact h⟩
theorem Path_ok (seg size : Int) (a H : Nat) (k : WinC seg size a H) (at_ : Nat) (hat : (at_ : Int) < size) (w : World) :
    Calls Tryd.prog 34 #[.int .i64 seg, .int .i64 size, .int .i64 at_] w (FreshW2 w (winsL a at_ (H + 1)) (.int .i64 0)) := by
 obtain ⟨n1, n2, n3, n4, n5, n6, n7, n8, n9⟩ := k.nums
 have hsg := k.seg
 have ha6 := k.a6
 have haH : a + H ≤ 16 := by
  have h1 : 2 ^ (a + H) ≤ 65536 := by rw [Nat.pow_add]; exact k.big
  rcases Nat.lt_or_ge 16 (a + H) with q | q
  · have h2 := Nat.pow_lt_pow_right (a := 2) xo q
    generalize 2 ^ (a + H) = P at *
    omega
  · exact q
 have AK := hid (fun w p ca (hw : IsRow .i64 w p [(at_ : Int)]) => wasked_ok seg size a H k p ca 1 [(at_ : Int)] rfl xo (fun i hi => by
  obtain rfl : i = 0 := xo
  exact ⟨by simp, by simpa using hat⟩) w hw)
 have IT := hid (fun S b1 b2 s1 s2 w c1 c2 => windows1_iter a at_ (H + 1) xo xo S b1 b2 s1 s2 w c1 c2)
 have HPL := hid (winX_length a at_ (H + 1))
 have HPG := hid (fun k (h : k < H + 1) => winX_get (a := a) (at_ := at_) h)
 have HSU := hid (fun k => winsL_succ a at_ k)
 have HLW := hid (winsL_length a at_)
 rw [← hsg] at IT
 clear k n5 n6 n7 hsg
 refine calls_of_wp_m Tryd.func34 rfl ?_
 simp only [Tryd.ntmps34, List.size_toArray, List.length_cons, List.length_nil, Nat.reduceAdd, Nat.reduceSub, Array.replicate_succ, Array.replicate_zero, List.push_toArray, List.append_toArray, List.nil_append, List.cons_append]
 go_wp2
 refine wp_scope_loop 0 (fun _ _ _ => False) rfl (fun _ _ _ h => h.elim) ?_
 intro HQ hH hpass
 clear hH hpass
 go_wp2_with fail
 refine (AK.out _ (some ⟨w.heap.size + 1, 0, none⟩) 1 (one_row ?_)).mono ?_
 · (exact xcn)
 rintro e w' ⟨rfl, rfl⟩
 go_wp2
 refine wp_label ?_
 go_wp2_with fail
 refine (windows_ok seg at_ _).mono ?_
 rintro e w2 ⟨rfl, rfl⟩
 go_wp2
 refine wp_range_e (xs := winX a at_ (H + 1)) (Kp := KpS (fun k => k ≠ w.heap.size ∧ k < w.heap.size + 5)) rfl (enters_of Tryd.func76 xk rfl)
   (IT.out (fun k => k ≠ w.heap.size ∧ k < w.heap.size + 5) (w.heap.size + 3) (w.heap.size + 4) xo xo _ ?c1 ?c2) (Below.refl _ _) (fun h k => fun i hi => (k i hi).trans (h i hi)) ?kb ?ps
   (PathI a at_ H w.heap.size w) (PathX a at_ H w.heap.size w) ?hI ?hX ?h0 ?round ?no ?stop
 case c1 => (exact xcn)
 case c2 => (exact xcn)
 case kb =>
  intro W l o o' hl _ _ k hk
  simp at hl
  exact World.putObj_heap_other xo
 case ps =>
  intro x hx
  simp only [winX, List.mem_map] at hx
  obtain ⟨k, _, rfl⟩ := hx
  rfl
 case hI =>
  intro k W W' h hc
  exact h.calm hc (by simp; omega)
 case hX =>
  intro k W W' h hc
  exact h.calm hc (by simp; omega)
 case no =>
  intro W h
  rw [HPL.out] at h
  have := h.le
  omega
 case h0 =>
  exact ⟨Nat.zero_le _, ⟨_, by (exact xcn), World.ownsRow_nil _ _ _ _⟩, by (exact xcn), by (exact xcn), by first | (simp; done) | (simp; omega), by (exact xbel)⟩
 case round =>
  intro q k W hq hk hi
  rw [HPL.out] at hk
  rw [HPG.out k hk]
  have hsu := hid (HSU.out k)
  obtain ⟨hle, ⟨v, hv, ho⟩, hfz, hhh, hsz, hbel⟩ := hi
  have hlt1 : (prI (winsL a at_ k)).length = k * 2 := by rw [prI_length, HLW.out]
  generalize ((wnd a k at_ * 2 ^ (a + k) : Nat) : Int) = x at *
  generalize x + ((2 ^ (a + k) : Nat) : Int) = y at *
  have hzb : w.heap.size < W.heap.size := World.block_lt_of_cell? _ _ hv
  have hzb2 : w.heap.size + 2 < W.heap.size := World.block_lt_of_cell? _ _ hhh
  obtain ⟨ao, co, rfl, -⟩ := owns_news ho
  gi_wp2
  have hab : Below W.heap.size W (W.alloc (.cells #[.int .i64 x, .int .i64 y] 58)) := (Below.refl _ _).alloc (Nat.le_refl _) _
  refine ⟨keeps_below hab, fun i hi => hab.block i xo, ?_⟩
  intro W2 hc
  have hc0 : W2.cell? ⟨W.heap.size, 0, none⟩ = some (.int .i64 x) := hc.cell xcw
  have hc1 : W2.cell? ⟨W.heap.size, 1, none⟩ = some (.int .i64 y) := hc.cell xcw
  have hv2 : W2.cell? ⟨w.heap.size, 0, none⟩ = some (.slice ao k co) := hc.cell ((hab.cell (p := ⟨w.heap.size, 0, none⟩) hzb).trans hv)
  have hh2 : W2.cell? ⟨w.heap.size + 2, 0, none⟩ = some (.int .i64 H) := hc.cell ((hab.cell (p := ⟨w.heap.size + 2, 0, none⟩) hzb2).trans hhh)
  have hfz2 : W2.frozen? ⟨w.heap.size, 0, none⟩ = false := hc.frozen ((hab.cell (p := ⟨w.heap.size, 0, none⟩) hzb).trans hv) ((hab.frozen (p := ⟨w.heap.size, 0, none⟩) hzb).trans hfz)
  have ho2 := hc.owns (owns_below ho hab)
  have hbel2 : Below w.heap.size w W2 := hc.below (by simp; omega) (below_via hab hbel xo)
  have hz2 := hbel2.size
  have hz5 : w.heap.size + 5 ≤ W2.heap.size := Nat.le_trans hsz (Nat.le_trans (by simp) hc.size)
  have HO2 := hid ho2
  have HB2 := hid hbel2
  have hzw : w.heap.size < W2.heap.size := World.block_lt_of_cell? _ _ hv2
  have hzw2 : w.heap.size + 2 < W2.heap.size := World.block_lt_of_cell? _ _ hh2
  clear ho hbel hab hc ho2 hbel2 hv hfz hhh
  gi_wp2_with (gi_at_builtin; refine wpListIn_append_own _ rfl (.tmp 27) (.tmp 29) 59 rfl (w.heap.size + 5) 58 _ (.agg #[.int .i64 0, .int .i64 0]) 2 16 Tryd.underlying59 (info_parts info_w2).choose_spec.1 (info_parts info_w2).choose_spec.2.1 (info_parts info_w2).choose_spec.2.2.1 (info_parts info_w2).choose_spec.2.2.2 rfl (by decide) _ k _ rfl (HO2.out.alloc (.cells #[.int .i64 x, .int .i64 y] 58)) ⟨W2.heap.size, 0, none⟩ 1 1 [.int .i64 x, .int .i64 y] rfl rfl (new_cells _ [.int .i64 x, .int .i64 y] _ _ rfl _ rfl) (by simp [Value.oneCell']) (by unfold maxLen; omega) xo (by simp; omega) ?_; intro v' w3 ho3 hg3 _
               obtain ⟨a3, c3, rfl, -⟩ := owns_news ho3
               have hne3 : ∀ z, z < w.heap.size + 5 → some z ≠ (Value.slice ao k co).ownBlock := fun z hz e => (by have := (HO2.out.lt _ e.symm).1; omega)
               have hbl3 := hg3.block w.heap.size (by simp; omega) (hne3 _ xo)
               have hv3 : w3.cell? ⟨w.heap.size, 0, none⟩ = some (.slice ao k co) := (World.cell?_of_block (a := ⟨w.heap.size, 0, none⟩) hbl3).trans ((((Below.refl _ W2).alloc (Nat.le_refl _) _).cell (p := ⟨w.heap.size, 0, none⟩) hzw).trans hv2)
               have hfz3 : w3.frozen? ⟨w.heap.size, 0, none⟩ = false := (World.frozen?_of_block (a := ⟨w.heap.size, 0, none⟩) hbl3).trans ((((Below.refl _ W2).alloc (Nat.le_refl _) _).frozen (p := ⟨w.heap.size, 0, none⟩) hzw).trans hfz2)
               have hh3 : w3.cell? ⟨w.heap.size + 2, 0, none⟩ = some (.int .i64 H) := (World.cell?_of_block (a := ⟨w.heap.size + 2, 0, none⟩) (hg3.block (w.heap.size + 2) (by simp; omega) (hne3 _ xo))).trans ((((Below.refl _ W2).alloc (Nat.le_refl _) _).cell (p := ⟨w.heap.size + 2, 0, none⟩) hzw2).trans hh2)
               have HO3 := hid ho3
               have HG3 := hid hg3
               have hkh : decide (k = H) = decide (k = H) := rfl
               clear ho3 hg3 hbl3 hne3
               by_cases hkH : k = H)
  all_goals
    have hB3 : Below w.heap.size w w3 := (HB2.out.alloc xo (.cells #[.int .i64 x, .int .i64 y] 58)).grown HG3.out (by simp; omega) (fun z hz => by have := (HO2.out.lt _ hz).1; omega)
    have hK3 : KeepsOthers W2 w3 := (keeps_below (((Below.refl _ W2).alloc (Nat.le_refl _) _))).trans (KeepsOthers.of_grownBy HG3.out (own_isCells (HO2.out.alloc _)))
  · refine ⟨hK3.trans (KeepsOthers.setCell _ _ _), ⟨rfl, ⟨_, World.cell?_setCell_same _ _ _ hv3, ?_⟩, by rw [World.frozen?_setCell]; exact hfz3, hB3.setCell (Nat.le_refl _) _⟩⟩
    rw [← hkH, hsu.out, prI_append, List.map_append]
    exact owns_heap HO3.out fun z hz => Below.heap_setCell _ _ _ _ (by have := (HO3.out.lt _ hz).1; show z ≠ w.heap.size; omega)
  · refine ⟨hK3.trans (KeepsOthers.setCell _ _ _), fun i hi => ?_, ⟨by omega, ⟨_, World.cell?_setCell_same _ _ _ hv3, ?_⟩, ?_, ?_, ?_, hB3.setCell (Nat.le_refl _) _⟩⟩
    · rw [Below.heap_setCell _ _ _ _ (show i ≠ w.heap.size from hi.1), HG3.out.block i (by simp; omega) (fun e => by have := (HO2.out.lt _ e.symm).1; omega)]
      exact ((Below.refl _ W2).alloc (Nat.le_refl _) _).block i xo
    · rw [hsu.out, prI_append, List.map_append]
      exact owns_heap HO3.out fun z hz => Below.heap_setCell _ _ _ _ (by have := (HO3.out.lt _ hz).1; show z ≠ w.heap.size; omega)
    · rw [World.frozen?_setCell]; exact hfz3
    · rw [World.cell?_setCell_other _ _ _ _ (by intro e; simp at e)]; exact hh3
    · have := hB3.size; have := HG3.out.size; simp at this ⊢; omega
 case stop =>
  intro D c W hD hX hK
  obtain ⟨rfl, ⟨v, hv, ho⟩, hfz, hbel⟩ := hX
  obtain ⟨ao, co, rfl, -⟩ := owns_news ho
  simp at hD
  have HO := hid ho
  have HB := hid hbel
  clear ho hbel
  go_wp2
  have hK2 : (W.setCell ⟨w.heap.size, 0, none⟩ (.slice ao (H + 1) co)).heap[D]? = some (.deferred (some [])) := (Below.heap_setCell _ _ _ _ (by show D ≠ w.heap.size; omega)).trans hK
  have hcalm : Calm (w.heap.size + 1) (W.setCell ⟨w.heap.size, 0, none⟩ (.slice ao (H + 1) co)) ((W.setCell ⟨w.heap.size, 0, none⟩ (.slice ao (H + 1) co)).putObj D (.deferred none)) := Calm.putObj _ xo hK2 rfl
  simp only [Exit.jump]
  refine postM_one hK2 (results_ct rfl rfl (run_loadVar_one Tryd.underlying59 rfl (hcalm.cell (World.cell?_setCell_same _ _ _ hv)))) ⟨_, rfl, ?_, hcalm.below xo (HB.out.setCell (Nat.le_refl _) _)⟩
  rw [HLW.out]
  exact owns_base (hcalm.owns (owns_heap HO.out fun z hz => Below.heap_setCell _ _ _ _ (by have := (HO.out.lt _ hz).1; show z ≠ w.heap.size; omega))) xo
end
end Go.Proofs.YtookgoidlnlckaaDoor
