/- Merged: HeapNode, RangeS, HeapUp, HeapFns, HeapLeaf. -/
import Derived.Test.YtbmibaafkgleeaaHeapH
import Derived.Test.YtbmibaafkgleeaaRange
import Derived.Lib.BitFns
import Derived.Sort.LoopGhostIn
namespace Go.Proofs.Ytbmibaafkgleeaa
set_option linter.unusedVariables false
set_option linter.unusedSimpArgs false
section
open Go.RowKit Go.Shelf
attribute [local go_sem] Oper.semAt_some

theorem node_any (l n : Int) (w : World) :
    Calls Try.prog 117 #[.int .i64 l, .int .i64 n] w fun e w' => e = .returned (.int .i64 (ndE l n)) ∧ w = w' := by
  by_cases hl : 1 ≤ l ∧ l ≤ 14
  · obtain ⟨h1, h2⟩ := hl
    obtain ⟨hp1, hp2⟩ := pow_bdI l h2
    by_cases hn : 1 ≤ n
    · by_cases hm : n < 2 ^ l.toNat
      · have hv : ndE l n = 0 := by simp [ndE, h1, h2, hn, hm]
        rw [hv]
        clear hv
        go_enter Try.func117, Try.ntmps117
        go_wp2_with (go_at_call 73; refine (tree_ok _ h1 h2 _).mono ?_; rintro e w' ⟨rfl, rfl⟩)
        go_ret
        exact ⟨rfl, rfl⟩
      · have hv : ndE l n = 2 := by simp [ndE, hm]
        rw [hv]
        clear hv
        go_enter Try.func117, Try.ntmps117
        go_wp2_with (go_at_call 73; refine (tree_ok _ h1 h2 _).mono ?_; rintro e w' ⟨rfl, rfl⟩)
        go_ret
        exact ⟨rfl, rfl⟩
    · have hv : ndE l n = 2 := by simp [ndE, hn]
      rw [hv]
      clear hv
      go_enter Try.func117, Try.ntmps117
      go_wp2_with (go_at_call 73; refine (tree_ok _ h1 h2 _).mono ?_; rintro e w' ⟨rfl, rfl⟩)
      go_ret
      exact ⟨rfl, rfl⟩
  · have hv : ndE l n = 2 := by simp [ndE, hl]
    rw [hv]
    clear hv
    go_enter Try.func117, Try.ntmps117
    go_wp2_with (go_at_call 73; refine (tree_err _ (by omega) _).mono ?_; rintro e w' ⟨rfl, rfl⟩)
    go_ret
    exact ⟨rfl, rfl⟩

end

section
open Go.RowKit

/-- an iterator that hands on the list xs; between two rounds it does what Sw tells -/
def IterS (P : Program) (gf : Nat) (lb : Array Value) (xs : List (Array Value)) (Kp Sw : World → World → Prop) (w : World) : Prop :=
  ∀ (l : Nat) (J Jx : Nat → World → Prop) (W : World), Below w.heap.size w W →
    (∀ k W1 W2, J k W1 → Sw W1 W2 → J k W2) → (∀ k W1 W2, Jx k W1 → Sw W1 W2 → Jx k W2) →
    (∀ k W1, k < xs.length → J k W1 → YieldAt Fence.wide 0 P l (xs.getD k #[]) W1 fun e W' =>
      (e = .returned (.bool true) ∧ J (k + 1) W' ∧ Kp W1 W') ∨ (e = .returned (.bool false) ∧ Jx (k + 1) W')) →
    J 0 W →
    CallsIn Fence.wide 0 P gf (#[.func (.yield l) #[] #[]] ++ lb) W fun e W' => (∃ v, e = .returned v) ∧ (J xs.length W' ∨ ∃ k, k ≤ xs.length ∧ Jx k W')

/-- THE LOOP 'for .. := range g': at an outermost loop of a function. -/
theorem wp_range_sw {P : Program} {g : Operand} {ps : Array Tmp} {assign body : Code} {Q : Exit → Act → World → Prop} {a : Act} {w : World}
    {gf : Nat} {lb : Array Value} (hg : a.eval g = .func (.func gf) #[] lb) (eg : ∀ args w, (callFunc gf args).run P w = .ok (.enter gf args) w)
    {xs : List (Array Value)} {Kp Sw : World → World → Prop} {w0 : World} (hseq : IterS P gf lb xs Kp Sw w0) (hSk : ∀ {A C : World}, Sw A C → KeepsOthers A C) (hb0 : Below w0.heap.size w0 w)
    (hKt : ∀ {A B C : World}, Kp A B → Kp B C → Kp A C) (hKb : ∀ (W : World) (l : Nat) (o o' : Obj), w.heap.size ≤ l → W.heap[l]? = some o → o.isCells = false → Kp W (W.putObj l o'))
    (hps : ∀ x ∈ xs, x.size = ps.size)
    (I : Nat → World → Prop) (Ix : Code → World → Prop) (hI : ∀ k W W', I k W → Calm w.heap.size W W' → I k W') (hIx : ∀ c W W', Ix c W → Calm w.heap.size W W' → Ix c W') (hIS : ∀ k W W', I k W → Sw W W' → I k W') (hIxS : ∀ c W W', Ix c W → Sw W W' → Ix c W') (h0 : I 0 w)
    (hround : ∀ (l k : Nat) (W : World), w.heap.size ≤ l → k < xs.length → I k W →
      assign.wpIn (inRd l) 0 P (Exit.then (BodyOkW P l body w.heap.size Kp I Ix k W) (fun _ _ _ => False))
        { tmps := (ps.zip (xs.getD k #[])).foldl (fun t (p, v) => t.setIfInBounds p v) a.tmps, defers := [] } W)
    (hdone : ∀ (D : Nat) (W : World), w.heap.size ≤ D → I xs.length W → W.heap[D]? = some (.deferred (some [])) → Q .normal { a with defers := { target := .collected D, args := #[] } :: a.defers } W)
    (hstop : ∀ (D : Nat) (c : Code) (W : World), w.heap.size ≤ D → Ix c W → W.heap[D]? = some (.deferred (some [])) → c.wp P Q { a with defers := { target := .collected D, args := #[] } :: a.defers } W) :
    (Code.rangeFunc g ps assign body).wp P Q a w := by
  refine wpIn_wide (n := 0).1 (wpIn_rangeFunc ?_)
  intro fn hfn
  obtain ⟨rec, hrec⟩ : ∃ rec : LoopState → Option Code → Loop, rec = fun st pe => { state := st, pending := pe, fn, tmps := a.tmps, params := ps, assign, body, defers := w.heap.size } := ⟨_, rfl⟩
  obtain ⟨W1, hW1⟩ : ∃ W1, (w.alloc (.deferred (some []))).alloc (.loop (rec .ready none)) = W1 := ⟨_, rfl⟩
  have hL1 : W1.heap[w.heap.size + 1]? = some (.loop (rec .ready none)) := by
    rw [← hW1]; have := World.alloc_heap_new (w.alloc (.deferred (some []))) (.loop (rec .ready none)); rwa [World.size_alloc] at this
  have hK1 : W1.heap[w.heap.size]? = some (.deferred (some [])) := by
    rw [← hW1]; exact (Below.heap_alloc _ _ _ (by simp)).trans (World.alloc_heap_new w _)
  have hI1 : I 0 W1 := by rw [← hW1]; exact hI _ _ _ h0 ((Calm.alloc _ (Nat.le_refl _)).trans (Calm.alloc _ (by simp)))
  have hb1 : Below w0.heap.size w0 W1 := by
    rw [← hW1]; exact hb0.trans ((((Below.refl _ w).alloc (Nat.le_refl _) _).alloc (by simp) _).mono hb0.size)
  refine ⟨w.heap.size + 1, [{ target := .collected w.heap.size, args := #[] }], W1, { target := .fn (.func gf) lb, args := #[.func (.yield (w.heap.size + 1)) #[] #[]] }, W1, gf,
    #[.func (.yield (w.heap.size + 1)) #[] #[]] ++ lb, W1, ?_, ?_, fun _ _ => trivial, ?_, fun h => (by cases h), ?_⟩
  · rw [← hW1, hrec]; exact run_enterLoop_outer _ _ _ _ _
  · simp only [resolve, hg]
    simp [go_sem]
  · simp [invoke, go_sem, eg]
  · refine (hseq (w.heap.size + 1)
      (fun k W => I k W ∧ W.heap[w.heap.size + 1]? = some (.loop (rec .ready none)) ∧ W.heap[w.heap.size]? = some (.deferred (some [])))
      (fun _ W => ∃ c, Ix c W ∧ W.heap[w.heap.size + 1]? = some (.loop (rec .done (some c))) ∧ W.heap[w.heap.size]? = some (.deferred (some [])))
      W1 hb1 ?_ ?_ ?_ ⟨hI1, hL1, hK1⟩).mono ?_
    · rintro k A C ⟨h1, h2, h3⟩ hb
      exact ⟨hIS _ _ _ h1 hb, (hSk hb).same _ _ h2 (by rfl), (hSk hb).same _ _ h3 (by rfl)⟩
    · rintro k A C ⟨c, h1, h2, h3⟩ hb
      exact ⟨c, hIxS _ _ _ h1 hb, (hSk hb).same _ _ h2 (by rfl), (hSk hb).same _ _ h3 (by rfl)⟩
    · -- one round
      rintro k W hkl ⟨hi, hl, hk⟩
      have hlt : w.heap.size + 1 < W.heap.size := (Array.getElem?_eq_some_iff.1 hl).1
      have hsz : (xs.getD k #[]).size = ps.size := by
        rw [List.getD_eq_getElem?_getD, List.getElem?_eq_getElem hkl]; exact hps _ (List.getElem_mem _)
      have hy := run_yield (P := P) (args := xs.getD k #[]) hl (by rw [hrec]; exact hsz)
      rw [hrec] at hy
      refine ⟨fn, _, assign, body, hy, roundIn_of_wpIn trivial (wpIn_mono (hround _ k W (by omega) hkl hi) ?_)⟩
      intro e a1 Wa hq
      cases e with
      | normal =>
        obtain ⟨hks, hkpa, hbody⟩ := hq
        have hl0 := hl
        have hlt0 := hlt
        replace hl : Wa.heap[w.heap.size + 1]? = some (.loop (rec .ready none)) := hks.same _ _ hl0 (by rfl)
        replace hk : Wa.heap[w.heap.size]? = some (.deferred (some [])) := hks.same _ _ hk (by rfl)
        replace hlt : w.heap.size + 1 < Wa.heap.size := (Array.getElem?_eq_some_iff.1 hl).1
        refine ⟨_, run_beginRound hl (by rw [hrec]), ?_⟩
        have hl2 : (Wa.putObj (w.heap.size + 1) (.loop { rec .ready none with state := .busy })).heap[w.heap.size + 1]? = some (.loop { rec .ready none with state := .busy }) := World.putObj_heap_same hlt
        have hk2 : (Wa.putObj (w.heap.size + 1) (.loop { rec .ready none with state := .busy })).heap[w.heap.size]? = some (.deferred (some [])) := (World.putObj_heap_other (by omega)).trans hk
        have hw2 : Kp Wa (Wa.putObj (w.heap.size + 1) (.loop { rec .ready none with state := .busy })) := hKb _ _ _ _ (by omega) hl rfl
        have hi2 : Calm w.heap.size Wa (Wa.putObj (w.heap.size + 1) (.loop { rec .ready none with state := .busy })) := Calm.putObj _ (by omega) hl rfl
        refine wpIn_mono (hbody _ hi2) ?_
        have fin : ∀ (jump : Option Code) (W3 : World), KeepsOthers (Wa.putObj (w.heap.size + 1) (.loop { rec .ready none with state := .busy })) W3 →
            (Instr.endRound (w.heap.size + 1) jump).run P W3 = .ok (.bool jump.isNone) (W3.putObj (w.heap.size + 1) (.loop (rec (if jump.isNone then .ready else .done) jump))) ∧
            W3.heap[w.heap.size + 1]? = some (.loop { rec .ready none with state := .busy }) ∧
            (W3.putObj (w.heap.size + 1) (.loop (rec (if jump.isNone then .ready else .done) jump))).heap[w.heap.size + 1]? = some (.loop (rec (if jump.isNone then .ready else .done) jump)) ∧
            (W3.putObj (w.heap.size + 1) (.loop (rec (if jump.isNone then .ready else .done) jump))).heap[w.heap.size]? = some (.deferred (some [])) := fun jump W3 hk3 => by
          have hl3 := hk3.same _ _ hl2 rfl
          have := run_endRound (P := P) jump hl3
          rw [hrec] at this ⊢
          exact ⟨this, by rw [hrec] at hl3; exact hl3, World.putObj_heap_same (Array.getElem?_eq_some_iff.1 hl3).1, (World.putObj_heap_other (by omega)).trans (hk3.same _ _ hk2 rfl)⟩
        rintro e a3 W3 hp
        cases e with
        | normal =>
          obtain ⟨hk3, hkp3, hi3⟩ := hp
          obtain ⟨hr, hl3, hl4, hk4⟩ := fin none W3 hk3
          exact ⟨_, _, hr, .inl ⟨rfl, ⟨hI _ _ _ hi3 (Calm.putObj _ (by omega) hl3 rfl), hl4, hk4⟩, hKt (hKt (hKt hkpa hw2) hkp3) (hKb _ _ _ _ (by omega) hl3 rfl)⟩⟩
        | ret =>
          obtain ⟨hk3, hi3⟩ := hp
          obtain ⟨hr, hl3, hl4, hk4⟩ := fin (some .ret) W3 hk3
          exact ⟨_, _, hr, .inr ⟨rfl, .ret, hIx _ _ _ hi3 (Calm.putObj _ (by omega) hl3 rfl), hl4, hk4⟩⟩
        | exit id =>
          obtain ⟨hk3, hi3⟩ := hp
          obtain ⟨hr, hl3, hl4, hk4⟩ := fin (some (.exit id)) W3 hk3
          exact ⟨_, _, hr, .inr ⟨rfl, .exit id, hIx _ _ _ hi3 (Calm.putObj _ (by omega) hl3 rfl), hl4, hk4⟩⟩
        | goto t =>
          obtain ⟨hk3, hi3⟩ := hp
          obtain ⟨hr, hl3, hl4, hk4⟩ := fin (some (.goto t)) W3 hk3
          exact ⟨_, _, hr, .inr ⟨rfl, .goto t, hIx _ _ _ hi3 (Calm.putObj _ (by omega) hl3 rfl), hl4, hk4⟩⟩
        | panic ch => exact hp.elim
        | outgrown => exact hp.elim
      | ret => exact hq.elim
      | exit id => exact hq.elim
      | goto t => exact hq.elim
      | panic ch => exact hq.elim
      | outgrown => exact hq.elim
    · -- behind the iterator
      rintro e W2 ⟨⟨v, rfl⟩, (⟨hi, hl, hk⟩ | ⟨k, _, c, hi, hl, hk⟩)⟩
      · exact ⟨none, _, by have := run_endLoop (P := P) hl (by rw [hrec]; simp); rw [hrec] at this; exact this, hdone _ _ (Nat.le_refl _) (hI _ _ _ hi (Calm.putObj _ (by omega) hl rfl)) ((World.putObj_heap_other (by omega)).trans hk)⟩
      · exact ⟨some c, _, by have := run_endLoop (P := P) hl (by rw [hrec]; simp); rw [hrec] at this; exact this, wpIn_wide.2 (hstop _ c _ (Nat.le_refl _) (hIx _ _ _ hi (Calm.putObj _ (by omega) hl rfl)) ((World.putObj_heap_other (by omega)).trans hk))⟩
/-- the loop, where the assignment of its variables turns nothing -/
theorem wp_range_s {P : Program} {g : Operand} {ps : Array Tmp} {assign body : Code} {Q : Exit → Act → World → Prop} {a : Act} {w : World}
    {gf : Nat} {lb : Array Value} (hg : a.eval g = .func (.func gf) #[] lb) (eg : ∀ args w, (callFunc gf args).run P w = .ok (.enter gf args) w)
    {xs : List (Array Value)} {Kp Sw : World → World → Prop} {w0 : World} (hseq : IterS P gf lb xs Kp Sw w0) (hSk : ∀ {A C : World}, Sw A C → KeepsOthers A C) (hb0 : Below w0.heap.size w0 w)
    (hKr : ∀ A : World, Kp A A) (hKt : ∀ {A B C : World}, Kp A B → Kp B C → Kp A C) (hKb : ∀ (W : World) (l : Nat) (o o' : Obj), w.heap.size ≤ l → W.heap[l]? = some o → o.isCells = false → Kp W (W.putObj l o'))
    (hps : ∀ x ∈ xs, x.size = ps.size)
    (I : Nat → World → Prop) (Ix : Code → World → Prop) (hI : ∀ k W W', I k W → Calm w.heap.size W W' → I k W') (hIx : ∀ c W W', Ix c W → Calm w.heap.size W W' → Ix c W') (hIS : ∀ k W W', I k W → Sw W W' → I k W') (hIxS : ∀ c W W', Ix c W → Sw W W' → Ix c W') (h0 : I 0 w)
    (hround : ∀ (l k : Nat) (W : World), w.heap.size ≤ l → k < xs.length → I k W →
      assign.wpIn (inRd l) 0 P (Exit.then (BodyOk P l body Kp I Ix k W) (fun _ _ _ => False))
        { tmps := (ps.zip (xs.getD k #[])).foldl (fun t (p, v) => t.setIfInBounds p v) a.tmps, defers := [] } W)
    (hdone : ∀ (D : Nat) (W : World), w.heap.size ≤ D → I xs.length W → W.heap[D]? = some (.deferred (some [])) → Q .normal { a with defers := { target := .collected D, args := #[] } :: a.defers } W)
    (hstop : ∀ (D : Nat) (c : Code) (W : World), w.heap.size ≤ D → Ix c W → W.heap[D]? = some (.deferred (some [])) → c.wp P Q { a with defers := { target := .collected D, args := #[] } :: a.defers } W) :
    (Code.rangeFunc g ps assign body).wp P Q a w := by
  refine wp_range_sw hg eg hseq hSk hb0 hKt hKb hps I Ix hI hIx hIS hIxS h0 (fun l k W hl hk hi => ?_) hdone hstop
  refine wpIn_mono (hround l k W hl hk hi) ?_
  intro e a1 W1 h
  cases e with
  | normal =>
    obtain ⟨rfl, hb⟩ := h
    exact ⟨KeepsOthers.refl _, hKr _, fun W2 hc => hb W2 (hI _ _ _ hi hc)⟩
  | ret => exact h.elim
  | exit id => exact h.elim
  | goto t => exact h.elim
  | panic ch => exact h.elim
  | outgrown => exact h.elim
end

section
open Go.RowKit Go.Shelf
attribute [local go_sem] Oper.semAt_some

theorem up_ok (n : Int) (w : World) :
    Calls Try.prog 118 #[.int .i64 n] w fun e w' => e = .returned (.func (.func 120) #[] #[.pointer (some ⟨w.heap.size, 0, none⟩)]) ∧ w.alloc (.cells #[.int .i64 n] 3) = w' := by
  go_enter Try.func118, Try.ntmps118
  go_wp2
  go_ret
  exact ⟨rfl, rfl⟩

def upRows (n : Nat) : List (Array Value) := List.map (fun x : Nat => #[.int .i64 x]) (ups n)
theorem upRows_length (n : Nat) : (upRows n).length = n.log2 + 1 := by simp [upRows, ups_length]
theorem upRows_get {n k : Nat} (h1 : 1 ≤ n) (h : k ≤ n.log2) : (upRows n).getD k #[] = #[.int .i64 ((n / 2 ^ k : Nat) : Int)] := by
  have hk : k < (ups n).length := by rw [ups_length]; omega
  have h2 := ups_get h1 h
  rw [List.getD_eq_getElem?_getD, List.getElem?_eq_getElem hk] at h2
  rw [upRows, List.getD_eq_getElem?_getD, List.getElem?_map, List.getElem?_eq_getElem hk]
  simp only [Option.map_some, Option.getD_some] at h2 ⊢
  rw [h2]

/-- what the iterator does between two rounds: its own variable is halved -/
def UpSw (b : Nat) (W W' : World) : Prop := ∃ v : Int, W' = W.setCell ⟨b, 0, none⟩ (.int .i64 v)
theorem UpSw.keeps {b : Nat} {A C : World} (h : UpSw b A C) : KeepsOthers A C := by
  obtain ⟨v, rfl⟩ := h
  exact KeepsOthers.setCell _ _ _

set_option maxHeartbeats 400000 in
theorem up1_iter (n : Nat) (h1 : 1 ≤ n) (h2 : n < 16384) (b : Nat) (w : World) (hb : w.cell? ⟨b, 0, none⟩ = some (.int .i64 n)) (hf : w.frozen? ⟨b, 0, none⟩ = false) :
    IterS Try.prog 120 #[.pointer (some ⟨b, 0, none⟩)] (upRows n) (fun W W' => W'.heap[b]? = W.heap[b]?) (UpSw b) w := by
  intro l J Jx W hW hJ hJx hY h0
  have hbl : b < w.heap.size := World.block_lt_of_cell? w _ hb
  have hcW : W.cell? ⟨b, 0, none⟩ = some (.int .i64 n) := (hW.cell (p := ⟨b, 0, none⟩) hbl).trans hb
  have hfW : W.frozen? ⟨b, 0, none⟩ = false := (hW.frozen (p := ⟨b, 0, none⟩) hbl).trans hf
  have HY := Lib.hid hY
  have HJ := Lib.hid hJ
  clear hY hJ hJx hb hf
  refine callsIn_of_wp Try.func120 rfl trivial ?_ rfl
  simp only [Try.ntmps120, List.size_toArray, List.length_cons, List.length_nil, Nat.reduceAdd, Nat.reduceSub, Array.replicate_succ, Array.replicate_zero, List.push_toArray, List.append_toArray, List.nil_append, List.cons_append]
  gi_wp2
  gi_loopg [] (n.log2 + 1) (fun g wr => ∃ k : Nat, k + g = n.log2 + 1 ∧ J k wr ∧ wr.cell? ⟨b, 0, none⟩ = some (.int .i64 ((n / 2 ^ k : Nat) : Int)) ∧ wr.frozen? ⟨b, 0, none⟩ = false)
  case atStart => exact ⟨0, by omega, h0, by simpa using hcW, hfW⟩
  case round =>
    obtain ⟨k, hk, hJk, hc, hfz⟩ := hrel
    obtain ⟨x, hx⟩ : ∃ x, n / 2 ^ k = x := ⟨_, rfl⟩
    have hxn : x ≤ n := by rw [← hx]; exact Nat.div_le_self _ _
    have hhalf : n / 2 ^ (k + 1) = x / 2 := by rw [← half_pow, hx]
    by_cases hlt : k ≤ n.log2
    · have hpos : 1 ≤ x := by rw [← hx]; exact (half_pos h1).1 hlt
      obtain ⟨fn, tmps, assign, body, hy, hR⟩ := HY.out k wr (by rw [upRows_length]; omega) hJk
      rw [upRows_get h1 hlt] at hy
      rw [hx] at hc hy
      have HH := Lib.hid hhalf
      have HK := Lib.hid hk
      clear hx hhalf hJk hcW hfW h0 hk
      gi_wp2
      refine ⟨rfl, hR.mono ?_⟩
      rintro e W3 (⟨rfl, hJ3, hk3⟩ | ⟨rfl, hJx3⟩)
      · have hc3 : W3.cell? ⟨b, 0, none⟩ = some (.int .i64 x) := by rw [World.cell?_of_block (w := wr) hk3]; exact hc
        have hf3 : W3.frozen? ⟨b, 0, none⟩ = false := by rw [World.frozen?_of_block (w := wr) hk3]; exact hfz
        have HJ3 := Lib.hid hJ3
        clear hk3 hc hfz hJ3
        gi_wp2
        gi_roundg (gk - 1)
        case measure => have := HK.out; omega
        case rel =>
          refine ⟨k + 1, by have := HK.out; omega, HJ.out _ _ _ HJ3.out ⟨_, rfl⟩, ?_, by rw [World.frozen?_setCell]; exact hf3⟩
          rw [World.cell?_setCell_same _ _ _ hc3, HH.out]
          rfl
      · gi_wp2
        refine bodyPost_end (results_none rfl _ _ _) rfl ⟨⟨_, rfl⟩, .inr ⟨k + 1, by rw [upRows_length]; omega, hJx3⟩⟩
    · have hz : x = 0 := by
        have := mt (half_pos (n := n) (k := k) h1).2 hlt
        rw [hx] at this
        omega
      have hc0 : wr.cell? ⟨b, 0, none⟩ = some (.int .i64 0) := by rw [hx, hz] at hc; exact hc
      subst hz
      clear hc
      have hkk : k = n.log2 + 1 := by omega
      have HJ4 := Lib.hid hJk
      clear hx hhalf hJk hcW hfW h0 hk
      gi_wp2
      refine ⟨fun f h => (by cases h), ?_⟩
      gi_wp2
      refine bodyPost_end (results_none rfl _ _ _) rfl ⟨⟨_, rfl⟩, .inl ?_⟩
      rw [upRows_length, ← hkk]
      exact HJ4.out
end

section
open Go.RowKit Go.Shelf
attribute [local go_sem] Oper.semAt_some

/-- a call that answers a known value and leaves all that was there alone -/
def Gives (w : World) (v : Value) (e : Ending) (w' : World) : Prop := e = .returned v ∧ Below w.heap.size w w'

end

section
open Go.RowKit Go.Shelf
attribute [local go_sem] Oper.semAt_some

theorem Leaf_any (l k : Int) (w : World) :
    Calls Try.prog 39 #[.int .i64 l, .int .i64 k] w fun e w' => e = .returned (.tuple #[.int .i64 (lfR l k), .int .i64 (lfE l k)]) ∧ w = w' := by
  by_cases hl : 1 ≤ l ∧ l ≤ 14
  · obtain ⟨h1, h2⟩ := hl
    obtain ⟨hp1, hp2⟩ := pow_bd (l.toNat - 1) (by omega)
    by_cases hc : 0 ≤ k ∧ k < 2 ^ (l.toNat - 1)
    · obtain ⟨hk, hm⟩ := hc
      have hv : lfE l k = 0 := by simp only [lfE, h1, h2, hk, hm, and_self, if_true]
      have hr : lfR l k = 2 ^ (l.toNat - 1) + k := by rw [lfR, hv]; rfl
      rw [hv, hr]
      clear hv hr
      go_enter Try.func39, Try.ntmps39
      go_wp2_with (go_at_call 73; refine (tree_ok _ h1 h2 _).mono ?_; rintro e w' ⟨rfl, rfl⟩)
      go_ret2
      exact ⟨rfl, rfl⟩
    · have hv : lfE l k = 2 := by simp only [lfE, hc, and_false, if_false]
      have hr : lfR l k = 0 := by rw [lfR, hv]; rfl
      rw [hv, hr]
      clear hv hr
      have hsp : k < 0 ∨ (0 ≤ k ∧ 2 ^ (l.toNat - 1) ≤ k) := by omega
      clear hc
      rcases hsp with hk | ⟨hk, hm⟩
      all_goals
        go_enter Try.func39, Try.ntmps39
        go_wp2_with (go_at_call 73; refine (tree_ok _ h1 h2 _).mono ?_; rintro e w' ⟨rfl, rfl⟩)
        go_ret2
        exact ⟨rfl, rfl⟩
  · have hv : lfE l k = 2 := by simp only [lfE, hl, false_and, if_false]
    have hr : lfR l k = 0 := by rw [lfR, hv]; rfl
    rw [hv, hr]
    clear hv hr
    go_enter Try.func39, Try.ntmps39
    go_wp2_with (go_at_call 73; refine (tree_err _ (by omega) _).mono ?_; rintro e w' ⟨rfl, rfl⟩)
    go_ret2
    exact ⟨rfl, rfl⟩
end
end Go.Proofs.Ytbmibaafkgleeaa
