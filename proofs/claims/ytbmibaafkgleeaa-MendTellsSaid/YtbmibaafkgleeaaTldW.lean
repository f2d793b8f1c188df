/- Merged: Told20, Win20. -/
import Derived.Test.YtbmibaafkgleeaaTuTold
import Derived.Test.YtbmibaafkgleeaaIdxTr
import Derived.Test.YtbmibaafkgleeaaHeapRf
import Derived.Test.YtbmibaafkgleeaaIdxTwin
import Derived.StillTailTactics
import Derived.Deep.CutRange
import Derived.Test.YtbmibaafkgleeaaIdxMy
namespace Go.Proofs.Ytbmibaafkgleeaa
set_option linter.unusedVariables false
set_option linter.unusedSimpArgs false
section
open Go.RowKit Go.Shelf
attribute [local go_sem] Oper.semAt_some

theorem own_at {w : World} {B : Nat} {e : TypeId} {v : Value} {n : Nat} {xs : List Value} (h : w.ownsRow B e 1 v n xs) (hn : 0 < n) : ∃ g k, v = .slice (some ⟨g, 0, none⟩) n k ∧ B ≤ g ∧ g < w.heap.size := by
  obtain ⟨h1, ⟨rfl, h2⟩ | ⟨g, cap, cur, rfl, hg, hh, _⟩⟩ := h
  · omega
  · exact ⟨g, cap, rfl, hg, (Array.getElem?_eq_some_iff.1 hh).1⟩
/-- the index that is told anew: its box, its rows; the places beside them -/
structure TS (l : Int) (L N bz b g1 g2 k1 k2 : Nat) (pa : Option Addr) (wz : World) (f g : Nat → Int) (W : World) : Prop where
  c0 : W.cell? ⟨b, 0, none⟩ = some (.int .i64 l)
  c1 : W.cell? ⟨b, 1, none⟩ = some (.slice (some ⟨g1, 0, none⟩) N k1)
  c2 : W.cell? ⟨b, 2, none⟩ = some (.slice (some ⟨g2, 0, none⟩) N k2)
  o1 : W.ownsRow bz 2 1 (.slice (some ⟨g1, 0, none⟩) N k1) N (((lay L 1).map f).map (Value.int .i64))
  o2 : W.ownsRow bz 3 1 (.slice (some ⟨g2, 0, none⟩) N k2) N (((lay L 1).map g).map (Value.int .i64))
  bel : Below bz wz W
  pl : IsRow .i64 W pa (plc L)
  n1 : b ≠ g1
  n2 : b ≠ g2
  n12 : g1 ≠ g2
  np : ∀ x, pa = some x → x.block ≠ g1 ∧ x.block ≠ g2
section
variable {l : Int} {L N bz b g1 g2 k1 k2 : Nat} {pa : Option Addr} {wz W W' : World} {f g : Nat → Int}
theorem TS.below (h : TS l L N bz b g1 g2 k1 k2 pa wz f g W) (hb : Below W.heap.size W W') : TS l L N bz b g1 g2 k1 k2 pa wz f g W' :=
  have hl := World.block_lt_of_cell? _ _ h.c0
  have hz : bz ≤ W.heap.size := by have := (h.o1.lt g1 rfl); omega
  ⟨(hb.cell (p := ⟨b, 0, none⟩) hl).trans h.c0, (hb.cell (p := ⟨b, 1, none⟩) hl).trans h.c1, (hb.cell (p := ⟨b, 2, none⟩) hl).trans h.c2, owns_below h.o1 hb, owns_below h.o2 hb, h.bel.trans (hb.mono hz), h.pl.below hb, h.n1, h.n2, h.n12, h.np⟩
theorem TS.s1 (h : TS l L N bz b g1 g2 k1 k2 pa wz f g W) (hL : 1 ≤ L) {n : Nat} (h1 : 1 ≤ n) (h2 : n < 2 ^ L) (v : Int) : TS l L N bz b g1 g2 k1 k2 pa wz (upd f n v) g (W.setCell ⟨g1, vpos L n, none⟩ (.int .i64 v)) := by
  have o := own_set h.o1 (vpos L n) v
  rw [lay_set hL f h1 h2] at o
  refine ⟨?_, ?_, ?_, o, owns_heap h.o2 fun j hj => by cases hj; exact heap_setCell_ne _ _ _ (fun e => h.n12 e.symm), h.bel.setCell (h.o1.lt g1 rfl).1 _, h.pl.setCell (fun x hx => (h.np x hx).1) _, h.n1, h.n2, h.n12, h.np⟩
  · exact (World.cell?_setCell_other _ _ _ _ (by intro e; injection e with e1; exact h.n1 (by omega))).trans h.c0
  · exact (World.cell?_setCell_other _ _ _ _ (by intro e; injection e with e1; exact h.n1 (by omega))).trans h.c1
  · exact (World.cell?_setCell_other _ _ _ _ (by intro e; injection e with e1; exact h.n1 (by omega))).trans h.c2
theorem TS.s2 (h : TS l L N bz b g1 g2 k1 k2 pa wz f g W) (hL : 1 ≤ L) {n : Nat} (h1 : 1 ≤ n) (h2 : n < 2 ^ L) (v : Int) : TS l L N bz b g1 g2 k1 k2 pa wz f (upd g n v) (W.setCell ⟨g2, vpos L n, none⟩ (.int .i64 v)) := by
  have o := own_set h.o2 (vpos L n) v
  rw [lay_set hL g h1 h2] at o
  refine ⟨?_, ?_, ?_, owns_heap h.o1 fun j hj => by cases hj; exact heap_setCell_ne _ _ _ h.n12, o, h.bel.setCell (h.o2.lt g2 rfl).1 _, h.pl.setCell (fun x hx => (h.np x hx).2) _, h.n1, h.n2, h.n12, h.np⟩
  · exact (World.cell?_setCell_other _ _ _ _ (by intro e; injection e with e1; exact h.n2 (by omega))).trans h.c0
  · exact (World.cell?_setCell_other _ _ _ _ (by intro e; injection e with e1; exact h.n2 (by omega))).trans h.c1
  · exact (World.cell?_setCell_other _ _ _ _ (by intro e; injection e with e1; exact h.n2 (by omega))).trans h.c2
theorem TS.r1 (h : TS l L N bz b g1 g2 k1 k2 pa wz f g W) (hL : 1 ≤ L) {n : Nat} (h1 : 1 ≤ n) (h2 : n < 2 ^ L) : W.cell? ⟨g1, vpos L n, none⟩ = some (.int .i64 (f n)) ∧ W.frozen? ⟨g1, vpos L n, none⟩ = false := by
  have o := own_cell h.o1 (j := vpos L n) (by rw [List.length_map, lay_len 1 hL]; exact (vpos_lay hL h1 h2).1)
  rw [lay_get hL f h1 h2] at o
  exact o
theorem TS.r2 (h : TS l L N bz b g1 g2 k1 k2 pa wz f g W) (hL : 1 ≤ L) {n : Nat} (h1 : 1 ≤ n) (h2 : n < 2 ^ L) : W.cell? ⟨g2, vpos L n, none⟩ = some (.int .i64 (g n)) ∧ W.frozen? ⟨g2, vpos L n, none⟩ = false := by
  have o := own_cell h.o2 (j := vpos L n) (by rw [List.length_map, lay_len 1 hL]; exact (vpos_lay hL h1 h2).1)
  rw [lay_get hL g h1 h2] at o
  exact o
theorem TS.pg (h : TS l L N bz b g1 g2 k1 k2 pa wz f g W) (hL : 1 ≤ L) {n : Nat} (h2 : n + 1 < 2 ^ L) : ∃ bp op, pa = some ⟨bp, op, none⟩ ∧ W.cell? ⟨bp, op + n, none⟩ = some (.int .i64 (vpos L (n + 1) : Nat)) ∧ bp ≠ g1 ∧ bp ≠ g2 := by
  obtain ⟨bp, op, x, e, hx, c, hlt⟩ := h.pl.get (i := n) (by rw [plc_length]; omega)
  have hg := plc_get (L := L) (n := n + 1) hL (by omega) h2
  rw [Nat.add_sub_cancel] at hg
  rw [← hx.out, hg] at c
  exact ⟨bp, op, e, c, (h.np _ e).1, (h.np _ e).2⟩
theorem TS.eq (h : TS l L N bz b g1 g2 k1 k2 pa wz f g W) (hL : 1 ≤ L) {f' g' : Nat → Int} (hf : ∀ n, 1 ≤ n → n < 2 ^ L → f n = f' n) (hg : ∀ n, 1 ≤ n → n < 2 ^ L → g n = g' n) : TS l L N bz b g1 g2 k1 k2 pa wz f' g' W :=
  ⟨h.c0, h.c1, h.c2, by rw [← lay_map_eq hL hf]; exact h.o1, by rw [← lay_map_eq hL hg]; exact h.o2, h.bel, h.pl, h.n1, h.n2, h.n12, h.np⟩
end
/-- what is told behind node n, and as it was up to it -/
def tdF (T t0 : Nat → Int) (n : Nat) : Nat → Int := fun m => if n < m then T m else t0 m
theorem tdF_far {T t0 : Nat → Int} {n m : Nat} (h : n < m) : tdF T t0 n m = T m := if_pos h
theorem upd_far {f : Nat → Int} {n m : Nat} {v : Int} (h : m ≠ n) : upd f n v m = f m := if_neg h
theorem tdF_step {T t0 : Nat → Int} {k : Nat} {v : Int} (h : T (k + 1) = v) : upd (tdF T t0 (k + 1)) (k + 1) v = tdF T t0 k := by
  funext m
  unfold upd tdF
  by_cases e : m = k + 1
  · subst e; rw [if_pos rfl, if_pos (by omega), h]
  · rw [if_neg e]
    by_cases h2 : k + 1 < m
    · rw [if_pos h2, if_pos (by omega)]
    · rw [if_neg h2, if_neg (by omega)]
theorem tdF_skip {T t0 : Nat → Int} {k : Nat} (h : T (k + 1) = t0 (k + 1)) : tdF T t0 (k + 1) = tdF T t0 k := by
  funext m
  unfold tdF
  by_cases e : m = k + 1
  · subst e; rw [if_neg (by omega), if_pos (by omega), h]
  · by_cases h2 : k + 1 < m
    · rw [if_pos h2, if_pos (by omega)]
    · rw [if_neg h2, if_neg (by omega)]
theorem upd_two {f : Nat → Int} {n : Nat} {u v : Int} : upd (upd f n u) n v = upd f n v := by
  funext m
  unfold upd
  split <;> rfl

set_option maxRecDepth 100000 in
set_option maxHeartbeats 8000000 in
theorem Told20_core (l seg laid : Int) (ma ica wa ka va ca : Option Addr) (mc icc wc kc vc cc lw lk lv lc L N F : Nat) (lo hi : Int) (ms cs : List Int) (A B : Nat → Int) (T1 T2 u1 u2 : Nat → Int) (lf : Nat → Int × Int) (w : World)
    (hl : l = L) (hL : 1 ≤ L) (hL14 : L ≤ 14) (hN : N + 1 = 2 ^ L) (hF : N + 1 = 2 * F) (hm : ms.length = N) (hc : cs.length = N) (hms : ms = (lay L 1).map u1) (hcs : cs = (lay L 1).map u2)
    (TW : Hid (∀ W, Below w.heap.size w W → Calls Try.prog 11 #[.agg #[.int .i64 l, .slice ma N mc, .slice ica N icc]] W (FreshIx W l ms cs)))
    (UN : Hid (∀ n : Nat, 1 ≤ n → n ≤ N → ∀ W, Calls Try.prog 87 #[.int .i64 l, .int .i64 n] W fun e w' => e = .returned (.tuple #[.int .i64 (A n), .int .i64 (B n), .int .i64 0]) ∧ W = w'))
    (FR : Hid (∀ W, Calls Try.prog 45 #[.int .i64 l] W fun e w' => e = .returned (.int .i64 F) ∧ W = w'))
    (LF : Hid (∀ k : Nat, k < F → ∀ W, Below w.heap.size w W → Calls Try.prog 88 #[.agg #[.int .i64 seg, .slice wa lw wc, .slice ka lk kc, .slice va lv vc, .slice ca lc cc, .int .u64 laid], .int .i64 k] W (AnsB W (tdV (lf k).1 (lf k).2))))
    (HSK : Hid (∀ n, 1 ≤ n → n ≤ N → (hi ≤ A n ∨ B n ≤ lo) → T1 n = u1 n ∧ T2 n = u2 n))
    (HLF : Hid (∀ n, F ≤ n → n ≤ N → ¬ hi ≤ A n → ¬ B n ≤ lo → T1 n = (lf (n - F)).1 ∧ T2 n = (lf (n - F)).2))
    (HIN : Hid (∀ n, 1 ≤ n → n < F → ¬ hi ≤ A n → ¬ B n ≤ lo → T1 n = (if 0 < T2 (2 * n + 1) then T1 (2 * n + 1) else T1 (2 * n)) ∧ T2 n = wrap64 (T2 (2 * n) + T2 (2 * n + 1)))) :
    Calls Try.prog 46 #[.agg #[.int .i64 l, .slice ma N mc, .slice ica N icc], .agg #[.int .i64 seg, .slice wa lw wc, .slice ka lk kc, .slice va lv vc, .slice ca lc cc, .int .u64 laid], .int .i64 lo, .int .i64 hi] w (FreshIx w l ((lay L 1).map T1) ((lay L 1).map T2)) := by
  have hNb : N + 1 ≤ 16384 := by rw [hN]; exact Nat.pow_le_pow_right (by omega) hL14
  have PL := Lib.hid (Places17_ok L l hl hL hL14)
  have hlp : (plc L).length = N := by rw [plc_length]; omega
  have HLP := Lib.hid hlp
  have HLT := Lib.hid hN
  have HMS := Lib.hid (And.intro hms hcs)
  have HLL := Lib.hid (lay_len (L := L) 1 hL)
  have HML := Lib.hid hm
  have HCL := Lib.hid hc
  have hN0 : 0 < N := by omega
  clear hl hm hc hms hcs hlp hN hL14
  go_enter Try.func46, Try.ntmps46
  go_upto_region 1 with (fail)
  generalize hwz : (((w.alloc (.cells #[.int .i64 l, .slice ma N mc, .slice ica N icc] 25)).alloc (.cells #[.int .i64 seg, .slice wa lw wc, .slice ka lk kc, .slice va lv vc, .slice ca lc cc, .int .u64 laid] 29)).alloc (.cells #[.int .i64 0, .slice none 0 0, .slice none 0 0] 25)) = wz
  have c_x0 : wz.cell? ⟨w.heap.size, 0, none⟩ = some (.int .i64 l) := by rw [← hwz]; (first | (with_reducible assumption) | ((simp only [World.frozen?_setCell, World.frozen?_drew, World.frozen?_drewN]) <;> (with_reducible assumption)) | ((repeat (first | (with_reducible assumption) | (with_reducible refine World.cell?_setCell_same _ _ _ (by with_reducible assumption)) | (rw [World.cell?_setCell_other _ _ _ _ (by intro e; simp at e; done)]) | (with_reducible refine cell_setCell_block ?_ ?_) | (rw [World.cell?_drew]) | (rw [World.cell?_drewN]) | (dsimp only; omega))); done) | (first | (with_reducible assumption) | ((try simp (disch := first | omega | (simp only [szW] <;> omega) | fail) only [ceW]) <;> first | (with_reducible assumption) | rfl)))
  have c_x1 : wz.cell? ⟨w.heap.size, 1, none⟩ = some (.slice ma N mc) := by rw [← hwz]; (first | (with_reducible assumption) | ((simp only [World.frozen?_setCell, World.frozen?_drew, World.frozen?_drewN]) <;> (with_reducible assumption)) | ((repeat (first | (with_reducible assumption) | (with_reducible refine World.cell?_setCell_same _ _ _ (by with_reducible assumption)) | (rw [World.cell?_setCell_other _ _ _ _ (by intro e; simp at e; done)]) | (with_reducible refine cell_setCell_block ?_ ?_) | (rw [World.cell?_drew]) | (rw [World.cell?_drewN]) | (dsimp only; omega))); done) | (first | (with_reducible assumption) | ((try simp (disch := first | omega | (simp only [szW] <;> omega) | fail) only [ceW]) <;> first | (with_reducible assumption) | rfl)))
  have c_x2 : wz.cell? ⟨w.heap.size, 2, none⟩ = some (.slice ica N icc) := by rw [← hwz]; (first | (with_reducible assumption) | ((simp only [World.frozen?_setCell, World.frozen?_drew, World.frozen?_drewN]) <;> (with_reducible assumption)) | ((repeat (first | (with_reducible assumption) | (with_reducible refine World.cell?_setCell_same _ _ _ (by with_reducible assumption)) | (rw [World.cell?_setCell_other _ _ _ _ (by intro e; simp at e; done)]) | (with_reducible refine cell_setCell_block ?_ ?_) | (rw [World.cell?_drew]) | (rw [World.cell?_drewN]) | (dsimp only; omega))); done) | (first | (with_reducible assumption) | ((try simp (disch := first | omega | (simp only [szW] <;> omega) | fail) only [ceW]) <;> first | (with_reducible assumption) | rfl)))
  have z_x : w.heap.size < wz.heap.size := by rw [← hwz]; (first | (with_reducible assumption) | omega | (simp only [szW] <;> omega) | (simp <;> omega))
  have c_s0 : wz.cell? ⟨w.heap.size + 1, 0, none⟩ = some (.int .i64 seg) := by rw [← hwz]; (first | (with_reducible assumption) | ((simp only [World.frozen?_setCell, World.frozen?_drew, World.frozen?_drewN]) <;> (with_reducible assumption)) | ((repeat (first | (with_reducible assumption) | (with_reducible refine World.cell?_setCell_same _ _ _ (by with_reducible assumption)) | (rw [World.cell?_setCell_other _ _ _ _ (by intro e; simp at e; done)]) | (with_reducible refine cell_setCell_block ?_ ?_) | (rw [World.cell?_drew]) | (rw [World.cell?_drewN]) | (dsimp only; omega))); done) | (first | (with_reducible assumption) | ((try simp (disch := first | omega | (simp only [szW] <;> omega) | fail) only [ceW]) <;> first | (with_reducible assumption) | rfl)))
  have c_s1 : wz.cell? ⟨w.heap.size + 1, 1, none⟩ = some (.slice wa lw wc) := by rw [← hwz]; (first | (with_reducible assumption) | ((simp only [World.frozen?_setCell, World.frozen?_drew, World.frozen?_drewN]) <;> (with_reducible assumption)) | ((repeat (first | (with_reducible assumption) | (with_reducible refine World.cell?_setCell_same _ _ _ (by with_reducible assumption)) | (rw [World.cell?_setCell_other _ _ _ _ (by intro e; simp at e; done)]) | (with_reducible refine cell_setCell_block ?_ ?_) | (rw [World.cell?_drew]) | (rw [World.cell?_drewN]) | (dsimp only; omega))); done) | (first | (with_reducible assumption) | ((try simp (disch := first | omega | (simp only [szW] <;> omega) | fail) only [ceW]) <;> first | (with_reducible assumption) | rfl)))
  have c_s2 : wz.cell? ⟨w.heap.size + 1, 2, none⟩ = some (.slice ka lk kc) := by rw [← hwz]; (first | (with_reducible assumption) | ((simp only [World.frozen?_setCell, World.frozen?_drew, World.frozen?_drewN]) <;> (with_reducible assumption)) | ((repeat (first | (with_reducible assumption) | (with_reducible refine World.cell?_setCell_same _ _ _ (by with_reducible assumption)) | (rw [World.cell?_setCell_other _ _ _ _ (by intro e; simp at e; done)]) | (with_reducible refine cell_setCell_block ?_ ?_) | (rw [World.cell?_drew]) | (rw [World.cell?_drewN]) | (dsimp only; omega))); done) | (first | (with_reducible assumption) | ((try simp (disch := first | omega | (simp only [szW] <;> omega) | fail) only [ceW]) <;> first | (with_reducible assumption) | rfl)))
  have c_s3 : wz.cell? ⟨w.heap.size + 1, 3, none⟩ = some (.slice va lv vc) := by rw [← hwz]; (first | (with_reducible assumption) | ((simp only [World.frozen?_setCell, World.frozen?_drew, World.frozen?_drewN]) <;> (with_reducible assumption)) | ((repeat (first | (with_reducible assumption) | (with_reducible refine World.cell?_setCell_same _ _ _ (by with_reducible assumption)) | (rw [World.cell?_setCell_other _ _ _ _ (by intro e; simp at e; done)]) | (with_reducible refine cell_setCell_block ?_ ?_) | (rw [World.cell?_drew]) | (rw [World.cell?_drewN]) | (dsimp only; omega))); done) | (first | (with_reducible assumption) | ((try simp (disch := first | omega | (simp only [szW] <;> omega) | fail) only [ceW]) <;> first | (with_reducible assumption) | rfl)))
  have c_s4 : wz.cell? ⟨w.heap.size + 1, 4, none⟩ = some (.slice ca lc cc) := by rw [← hwz]; (first | (with_reducible assumption) | ((simp only [World.frozen?_setCell, World.frozen?_drew, World.frozen?_drewN]) <;> (with_reducible assumption)) | ((repeat (first | (with_reducible assumption) | (with_reducible refine World.cell?_setCell_same _ _ _ (by with_reducible assumption)) | (rw [World.cell?_setCell_other _ _ _ _ (by intro e; simp at e; done)]) | (with_reducible refine cell_setCell_block ?_ ?_) | (rw [World.cell?_drew]) | (rw [World.cell?_drewN]) | (dsimp only; omega))); done) | (first | (with_reducible assumption) | ((try simp (disch := first | omega | (simp only [szW] <;> omega) | fail) only [ceW]) <;> first | (with_reducible assumption) | rfl)))
  have c_s5 : wz.cell? ⟨w.heap.size + 1, 5, none⟩ = some (.int .u64 laid) := by rw [← hwz]; (first | (with_reducible assumption) | ((simp only [World.frozen?_setCell, World.frozen?_drew, World.frozen?_drewN]) <;> (with_reducible assumption)) | ((repeat (first | (with_reducible assumption) | (with_reducible refine World.cell?_setCell_same _ _ _ (by with_reducible assumption)) | (rw [World.cell?_setCell_other _ _ _ _ (by intro e; simp at e; done)]) | (with_reducible refine cell_setCell_block ?_ ?_) | (rw [World.cell?_drew]) | (rw [World.cell?_drewN]) | (dsimp only; omega))); done) | (first | (with_reducible assumption) | ((try simp (disch := first | omega | (simp only [szW] <;> omega) | fail) only [ceW]) <;> first | (with_reducible assumption) | rfl)))
  have z_s : w.heap.size + 1 < wz.heap.size := by rw [← hwz]; (first | (with_reducible assumption) | omega | (simp only [szW] <;> omega) | (simp <;> omega))
  have c_r0 : wz.cell? ⟨w.heap.size + 1 + 1, 0, none⟩ = some (.int .i64 0) := by rw [← hwz]; (first | (with_reducible assumption) | ((simp only [World.frozen?_setCell, World.frozen?_drew, World.frozen?_drewN]) <;> (with_reducible assumption)) | ((repeat (first | (with_reducible assumption) | (with_reducible refine World.cell?_setCell_same _ _ _ (by with_reducible assumption)) | (rw [World.cell?_setCell_other _ _ _ _ (by intro e; simp at e; done)]) | (with_reducible refine cell_setCell_block ?_ ?_) | (rw [World.cell?_drew]) | (rw [World.cell?_drewN]) | (dsimp only; omega))); done) | (first | (with_reducible assumption) | ((try simp (disch := first | omega | (simp only [szW] <;> omega) | fail) only [ceW]) <;> first | (with_reducible assumption) | rfl)))
  have f_r0 : wz.frozen? ⟨w.heap.size + 1 + 1, 0, none⟩ = false := by rw [← hwz]; (first | (with_reducible assumption) | ((simp only [World.frozen?_setCell, World.frozen?_drew, World.frozen?_drewN]) <;> (with_reducible assumption)) | ((repeat (first | (with_reducible assumption) | (with_reducible refine World.cell?_setCell_same _ _ _ (by with_reducible assumption)) | (rw [World.cell?_setCell_other _ _ _ _ (by intro e; simp at e; done)]) | (with_reducible refine cell_setCell_block ?_ ?_) | (rw [World.cell?_drew]) | (rw [World.cell?_drewN]) | (dsimp only; omega))); done) | (first | (with_reducible assumption) | ((try simp (disch := first | omega | (simp only [szW] <;> omega) | fail) only [ceW]) <;> first | (with_reducible assumption) | rfl)))
  have c_r1 : wz.cell? ⟨w.heap.size + 1 + 1, 1, none⟩ = some (.slice none 0 0) := by rw [← hwz]; (first | (with_reducible assumption) | ((simp only [World.frozen?_setCell, World.frozen?_drew, World.frozen?_drewN]) <;> (with_reducible assumption)) | ((repeat (first | (with_reducible assumption) | (with_reducible refine World.cell?_setCell_same _ _ _ (by with_reducible assumption)) | (rw [World.cell?_setCell_other _ _ _ _ (by intro e; simp at e; done)]) | (with_reducible refine cell_setCell_block ?_ ?_) | (rw [World.cell?_drew]) | (rw [World.cell?_drewN]) | (dsimp only; omega))); done) | (first | (with_reducible assumption) | ((try simp (disch := first | omega | (simp only [szW] <;> omega) | fail) only [ceW]) <;> first | (with_reducible assumption) | rfl)))
  have f_r1 : wz.frozen? ⟨w.heap.size + 1 + 1, 1, none⟩ = false := by rw [← hwz]; (first | (with_reducible assumption) | ((simp only [World.frozen?_setCell, World.frozen?_drew, World.frozen?_drewN]) <;> (with_reducible assumption)) | ((repeat (first | (with_reducible assumption) | (with_reducible refine World.cell?_setCell_same _ _ _ (by with_reducible assumption)) | (rw [World.cell?_setCell_other _ _ _ _ (by intro e; simp at e; done)]) | (with_reducible refine cell_setCell_block ?_ ?_) | (rw [World.cell?_drew]) | (rw [World.cell?_drewN]) | (dsimp only; omega))); done) | (first | (with_reducible assumption) | ((try simp (disch := first | omega | (simp only [szW] <;> omega) | fail) only [ceW]) <;> first | (with_reducible assumption) | rfl)))
  have c_r2 : wz.cell? ⟨w.heap.size + 1 + 1, 2, none⟩ = some (.slice none 0 0) := by rw [← hwz]; (first | (with_reducible assumption) | ((simp only [World.frozen?_setCell, World.frozen?_drew, World.frozen?_drewN]) <;> (with_reducible assumption)) | ((repeat (first | (with_reducible assumption) | (with_reducible refine World.cell?_setCell_same _ _ _ (by with_reducible assumption)) | (rw [World.cell?_setCell_other _ _ _ _ (by intro e; simp at e; done)]) | (with_reducible refine cell_setCell_block ?_ ?_) | (rw [World.cell?_drew]) | (rw [World.cell?_drewN]) | (dsimp only; omega))); done) | (first | (with_reducible assumption) | ((try simp (disch := first | omega | (simp only [szW] <;> omega) | fail) only [ceW]) <;> first | (with_reducible assumption) | rfl)))
  have f_r2 : wz.frozen? ⟨w.heap.size + 1 + 1, 2, none⟩ = false := by rw [← hwz]; (first | (with_reducible assumption) | ((simp only [World.frozen?_setCell, World.frozen?_drew, World.frozen?_drewN]) <;> (with_reducible assumption)) | ((repeat (first | (with_reducible assumption) | (with_reducible refine World.cell?_setCell_same _ _ _ (by with_reducible assumption)) | (rw [World.cell?_setCell_other _ _ _ _ (by intro e; simp at e; done)]) | (with_reducible refine cell_setCell_block ?_ ?_) | (rw [World.cell?_drew]) | (rw [World.cell?_drewN]) | (dsimp only; omega))); done) | (first | (with_reducible assumption) | ((try simp (disch := first | omega | (simp only [szW] <;> omega) | fail) only [ceW]) <;> first | (with_reducible assumption) | rfl)))
  have z_r : w.heap.size + 1 + 1 < wz.heap.size := by rw [← hwz]; (first | (with_reducible assumption) | omega | (simp only [szW] <;> omega) | (simp <;> omega))
  have HB0 : Hid (Below w.heap.size w wz) := by rw [← hwz]; exact Lib.hid ((((Below.refl _ _).alloc (Nat.le_refl _) _).alloc (by simp) _).alloc (by simp; omega) _)
  have hwsz : wz.heap.size = w.heap.size + 3 := by rw [← hwz]; simp
  clear hwz
  have d_x0 := c_x0
  have d_x1 := c_x1
  have d_x2 := c_x2
  have d_s0 := c_s0
  have d_s1 := c_s1
  have d_s2 := c_s2
  have d_s3 := c_s3
  have d_s4 := c_s4
  have d_s5 := c_s5
  have d_r0 := c_r0
  have q_r0 := f_r0
  have d_r1 := c_r1
  have q_r1 := f_r1
  have d_r2 := c_r2
  have q_r2 := f_r2
  go_wp2_with fail
  refine (TW.out _ HB0.out).mono ?_
  rintro e w1 ⟨v, u, rfl, o1, o2, hb1⟩
  have hz_w1 := hb1.size
  try simp only [World.size_alloc, World.size_setCell] at hz_w1
  have all_c : w1.cell? ⟨w.heap.size, 0, none⟩ = some (.int .i64 l) ∧ w1.cell? ⟨w.heap.size, 1, none⟩ = some (.slice ma N mc) ∧ w1.cell? ⟨w.heap.size, 2, none⟩ = some (.slice ica N icc) ∧ w1.cell? ⟨w.heap.size + 1, 0, none⟩ = some (.int .i64 seg) ∧ w1.cell? ⟨w.heap.size + 1, 1, none⟩ = some (.slice wa lw wc) ∧ w1.cell? ⟨w.heap.size + 1, 2, none⟩ = some (.slice ka lk kc) ∧ w1.cell? ⟨w.heap.size + 1, 3, none⟩ = some (.slice va lv vc) ∧ w1.cell? ⟨w.heap.size + 1, 4, none⟩ = some (.slice ca lc cc) ∧ w1.cell? ⟨w.heap.size + 1, 5, none⟩ = some (.int .u64 laid) ∧ w1.cell? ⟨w.heap.size + 1 + 1, 0, none⟩ = some (.int .i64 0) ∧ w1.cell? ⟨w.heap.size + 1 + 1, 1, none⟩ = some (.slice none 0 0) ∧ w1.cell? ⟨w.heap.size + 1 + 1, 2, none⟩ = some (.slice none 0 0) := by refine ⟨?_, ?_, ?_, ?_, ?_, ?_, ?_, ?_, ?_, ?_, ?_, ?_⟩ <;> (refine (hb1.cell ?_).trans ?_ <;> first | (first | (with_reducible assumption) | omega | (simp only [szW] <;> omega) | (simp <;> omega)) | (first | (with_reducible assumption) | ((try simp (disch := first | omega | (simp only [szW] <;> omega) | fail) only [ceW]) <;> first | (with_reducible assumption) | rfl)))
  have all_f : w1.frozen? ⟨w.heap.size + 1 + 1, 0, none⟩ = false ∧ w1.frozen? ⟨w.heap.size + 1 + 1, 1, none⟩ = false ∧ w1.frozen? ⟨w.heap.size + 1 + 1, 2, none⟩ = false := by refine ⟨?_, ?_, ?_⟩ <;> (refine (hb1.frozen ?_).trans ?_ <;> first | (first | (with_reducible assumption) | omega | (simp only [szW] <;> omega) | (simp <;> omega)) | (first | (with_reducible assumption) | ((try simp (disch := first | omega | (simp only [szW] <;> omega) | fail) only [ceW]) <;> first | (with_reducible assumption) | rfl)))
  have all_z : w.heap.size < w1.heap.size ∧ w.heap.size + 1 < w1.heap.size ∧ w.heap.size + 1 + 1 < w1.heap.size := by refine ⟨?_, ?_, ?_⟩ <;> (omega)
  clear c_x0 c_x1 c_x2 c_s0 c_s1 c_s2 c_s3 c_s4 c_s5 c_r0 c_r1 c_r2 f_r0 f_r1 f_r2 z_x z_s z_r
  obtain ⟨c_x0, c_x1, c_x2, c_s0, c_s1, c_s2, c_s3, c_s4, c_s5, c_r0, c_r1, c_r2⟩ := all_c
  try clear all_c
  obtain ⟨f_r0, f_r1, f_r2⟩ := all_f
  try clear all_f
  obtain ⟨z_x, z_s, z_r⟩ := all_z
  try clear all_z
  rw [HML.out] at o1
  rw [HCL.out] at o2
  obtain ⟨g1, k1, rfl, hg1, hg1'⟩ := own_at o1 hN0
  obtain ⟨g2, k2, rfl, hg2, hg2'⟩ := own_at o2 hN0
  have n12 : g1 ≠ g2 := by
    rcases owns_apart o1 o2 (by decide) with h | h
    · cases h
    · intro e; exact h (by subst e; rfl)
  have hal : Below w1.heap.size w1 (w1.alloc (.cells #[.int .i64 l, .slice (some ⟨g1, 0, none⟩) N k1, .slice (some ⟨g2, 0, none⟩) N k2] 25)) := (Below.refl _ _).alloc (Nat.le_refl _) _
  have c_b0 : (w1.alloc (.cells #[.int .i64 l, .slice (some ⟨g1, 0, none⟩) N k1, .slice (some ⟨g2, 0, none⟩) N k2] 25)).cell? ⟨w1.heap.size, 0, none⟩ = some (.int .i64 l) := by (first | (with_reducible assumption) | ((try simp (disch := first | omega | (simp only [szW] <;> omega) | fail) only [ceW]) <;> first | (with_reducible assumption) | rfl))
  have c_b1 : (w1.alloc (.cells #[.int .i64 l, .slice (some ⟨g1, 0, none⟩) N k1, .slice (some ⟨g2, 0, none⟩) N k2] 25)).cell? ⟨w1.heap.size, 1, none⟩ = some (.slice (some ⟨g1, 0, none⟩) N k1) := by (first | (with_reducible assumption) | ((try simp (disch := first | omega | (simp only [szW] <;> omega) | fail) only [ceW]) <;> first | (with_reducible assumption) | rfl))
  have c_b2 : (w1.alloc (.cells #[.int .i64 l, .slice (some ⟨g1, 0, none⟩) N k1, .slice (some ⟨g2, 0, none⟩) N k2] 25)).cell? ⟨w1.heap.size, 2, none⟩ = some (.slice (some ⟨g2, 0, none⟩) N k2) := by (first | (with_reducible assumption) | ((try simp (disch := first | omega | (simp only [szW] <;> omega) | fail) only [ceW]) <;> first | (with_reducible assumption) | rfl))
  have z_b : w1.heap.size < (w1.alloc (.cells #[.int .i64 l, .slice (some ⟨g1, 0, none⟩) N k1, .slice (some ⟨g2, 0, none⟩) N k2] 25)).heap.size := by simp
  have O1 := Lib.hid (owns_below o1 hal)
  have O2 := Lib.hid (owns_below o2 hal)
  have h2 : Below wz.heap.size wz (w1.alloc (.cells #[.int .i64 l, .slice (some ⟨g1, 0, none⟩) N k1, .slice (some ⟨g2, 0, none⟩) N k2] 25)) := hb1.alloc (by omega) _
  go_upto_region 2 with (fail)
  generalize w1.alloc (.cells #[.int .i64 l, .slice (some ⟨g1, 0, none⟩) N k1, .slice (some ⟨g2, 0, none⟩) N k2] 25) = w2 at *
  have nb1 : w1.heap.size ≠ g1 := by omega
  have nb2 : w1.heap.size ≠ g2 := by omega
  generalize w1.heap.size = b at *
  have hz_w2 := hal.size
  try simp only [World.size_alloc, World.size_setCell] at hz_w2
  have all_c : w2.cell? ⟨w.heap.size, 0, none⟩ = some (.int .i64 l) ∧ w2.cell? ⟨w.heap.size, 1, none⟩ = some (.slice ma N mc) ∧ w2.cell? ⟨w.heap.size, 2, none⟩ = some (.slice ica N icc) ∧ w2.cell? ⟨w.heap.size + 1, 0, none⟩ = some (.int .i64 seg) ∧ w2.cell? ⟨w.heap.size + 1, 1, none⟩ = some (.slice wa lw wc) ∧ w2.cell? ⟨w.heap.size + 1, 2, none⟩ = some (.slice ka lk kc) ∧ w2.cell? ⟨w.heap.size + 1, 3, none⟩ = some (.slice va lv vc) ∧ w2.cell? ⟨w.heap.size + 1, 4, none⟩ = some (.slice ca lc cc) ∧ w2.cell? ⟨w.heap.size + 1, 5, none⟩ = some (.int .u64 laid) ∧ w2.cell? ⟨w.heap.size + 1 + 1, 0, none⟩ = some (.int .i64 0) ∧ w2.cell? ⟨w.heap.size + 1 + 1, 1, none⟩ = some (.slice none 0 0) ∧ w2.cell? ⟨w.heap.size + 1 + 1, 2, none⟩ = some (.slice none 0 0) := by refine ⟨?_, ?_, ?_, ?_, ?_, ?_, ?_, ?_, ?_, ?_, ?_, ?_⟩ <;> (refine (hal.cell ?_).trans ?_ <;> first | (first | (with_reducible assumption) | omega | (simp only [szW] <;> omega) | (simp <;> omega)) | (first | (with_reducible assumption) | ((try simp (disch := first | omega | (simp only [szW] <;> omega) | fail) only [ceW]) <;> first | (with_reducible assumption) | rfl)))
  have all_f : w2.frozen? ⟨w.heap.size + 1 + 1, 0, none⟩ = false ∧ w2.frozen? ⟨w.heap.size + 1 + 1, 1, none⟩ = false ∧ w2.frozen? ⟨w.heap.size + 1 + 1, 2, none⟩ = false := by refine ⟨?_, ?_, ?_⟩ <;> (refine (hal.frozen ?_).trans ?_ <;> first | (first | (with_reducible assumption) | omega | (simp only [szW] <;> omega) | (simp <;> omega)) | (first | (with_reducible assumption) | ((try simp (disch := first | omega | (simp only [szW] <;> omega) | fail) only [ceW]) <;> first | (with_reducible assumption) | rfl)))
  have all_z : w.heap.size < w2.heap.size ∧ w.heap.size + 1 < w2.heap.size ∧ w.heap.size + 1 + 1 < w2.heap.size := by refine ⟨?_, ?_, ?_⟩ <;> (omega)
  clear c_x0 c_x1 c_x2 c_s0 c_s1 c_s2 c_s3 c_s4 c_s5 c_r0 c_r1 c_r2 f_r0 f_r1 f_r2 z_x z_s z_r
  obtain ⟨c_x0, c_x1, c_x2, c_s0, c_s1, c_s2, c_s3, c_s4, c_s5, c_r0, c_r1, c_r2⟩ := all_c
  try clear all_c
  obtain ⟨f_r0, f_r1, f_r2⟩ := all_f
  try clear all_f
  obtain ⟨z_x, z_s, z_r⟩ := all_z
  try clear all_z
  clear o1 o2 hal hb1
  go_wp2_with fail
  refine (PL.out _).mono ?_
  rintro e w3 ⟨v3, rfl, o3, hb3⟩
  have hz_w3 := hb3.size
  try simp only [World.size_alloc, World.size_setCell] at hz_w3
  have all_c : w3.cell? ⟨w.heap.size, 0, none⟩ = some (.int .i64 l) ∧ w3.cell? ⟨w.heap.size, 1, none⟩ = some (.slice ma N mc) ∧ w3.cell? ⟨w.heap.size, 2, none⟩ = some (.slice ica N icc) ∧ w3.cell? ⟨w.heap.size + 1, 0, none⟩ = some (.int .i64 seg) ∧ w3.cell? ⟨w.heap.size + 1, 1, none⟩ = some (.slice wa lw wc) ∧ w3.cell? ⟨w.heap.size + 1, 2, none⟩ = some (.slice ka lk kc) ∧ w3.cell? ⟨w.heap.size + 1, 3, none⟩ = some (.slice va lv vc) ∧ w3.cell? ⟨w.heap.size + 1, 4, none⟩ = some (.slice ca lc cc) ∧ w3.cell? ⟨w.heap.size + 1, 5, none⟩ = some (.int .u64 laid) ∧ w3.cell? ⟨w.heap.size + 1 + 1, 0, none⟩ = some (.int .i64 0) ∧ w3.cell? ⟨w.heap.size + 1 + 1, 1, none⟩ = some (.slice none 0 0) ∧ w3.cell? ⟨w.heap.size + 1 + 1, 2, none⟩ = some (.slice none 0 0) ∧ w3.cell? ⟨b, 0, none⟩ = some (.int .i64 l) ∧ w3.cell? ⟨b, 1, none⟩ = some (.slice (some ⟨g1, 0, none⟩) N k1) ∧ w3.cell? ⟨b, 2, none⟩ = some (.slice (some ⟨g2, 0, none⟩) N k2) := by refine ⟨?_, ?_, ?_, ?_, ?_, ?_, ?_, ?_, ?_, ?_, ?_, ?_, ?_, ?_, ?_⟩ <;> (refine (hb3.cell ?_).trans ?_ <;> first | (first | (with_reducible assumption) | omega | (simp only [szW] <;> omega) | (simp <;> omega)) | (first | (with_reducible assumption) | ((try simp (disch := first | omega | (simp only [szW] <;> omega) | fail) only [ceW]) <;> first | (with_reducible assumption) | rfl)))
  have all_f : w3.frozen? ⟨w.heap.size + 1 + 1, 0, none⟩ = false ∧ w3.frozen? ⟨w.heap.size + 1 + 1, 1, none⟩ = false ∧ w3.frozen? ⟨w.heap.size + 1 + 1, 2, none⟩ = false := by refine ⟨?_, ?_, ?_⟩ <;> (refine (hb3.frozen ?_).trans ?_ <;> first | (first | (with_reducible assumption) | omega | (simp only [szW] <;> omega) | (simp <;> omega)) | (first | (with_reducible assumption) | ((try simp (disch := first | omega | (simp only [szW] <;> omega) | fail) only [ceW]) <;> first | (with_reducible assumption) | rfl)))
  have all_z : w.heap.size < w3.heap.size ∧ w.heap.size + 1 < w3.heap.size ∧ w.heap.size + 1 + 1 < w3.heap.size ∧ b < w3.heap.size := by refine ⟨?_, ?_, ?_, ?_⟩ <;> (omega)
  clear c_x0 c_x1 c_x2 c_s0 c_s1 c_s2 c_s3 c_s4 c_s5 c_r0 c_r1 c_r2 f_r0 f_r1 f_r2 z_x z_s z_r
  obtain ⟨c_x0, c_x1, c_x2, c_s0, c_s1, c_s2, c_s3, c_s4, c_s5, c_r0, c_r1, c_r2, c_b0, c_b1, c_b2⟩ := all_c
  try clear all_c
  obtain ⟨f_r0, f_r1, f_r2⟩ := all_f
  try clear all_f
  obtain ⟨z_x, z_s, z_r, z_b⟩ := all_z
  try clear all_z
  have h3 : Below wz.heap.size wz w3 := below_via hb3 h2 h2.size
  obtain ⟨pa, pc, rfl, i3, hp3, -, -, -⟩ := row_of_owns o3
  rw [HLP.out]
  have TS3 : Hid (TS l L N wz.heap.size b g1 g2 k1 k2 pa wz u1 u2 w3) := Lib.hid ⟨c_b0, c_b1, c_b2, by have := owns_below O1.out hb3; rw [HMS.out.1] at this; exact this, by have := owns_below O2.out hb3; rw [HMS.out.2] at this; exact this, h3, i3, nb1, nb2, n12, fun x hx => by have := (hp3 x hx).1; have := (O1.out.lt g1 rfl).2; have := (O2.out.lt g2 rfl).2; constructor <;> omega⟩
  clear o3 i3 hp3 hb3 O1 O2 h2 h3
  go_wp2_with fail
  refine (FR.out _).mono ?_
  rintro e w' ⟨rfl, rfl⟩
  go_wp2
  go_loopg [12] N (fun gk iv wr => ∃ m : Nat, m = gk ∧ m ≤ N ∧ iv = .int .i64 m ∧ Hid (TS l L N wz.heap.size b g1 g2 k1 k2 pa wz (tdF T1 u1 m) (tdF T2 u2 m) wr))
  case atStart => exact ⟨N, rfl, Nat.le_refl _, rfl, Lib.hid (TS3.out.eq hL (fun n n1 n2 => by unfold tdF; rw [if_neg (by have := HLT.out; omega)]) (fun n n1 n2 => by unfold tdF; rw [if_neg (by have := HLT.out; omega)]))⟩
  case round =>
    obtain ⟨m, hmg, hmN, rfl, TSr⟩ := hrel
    have hz_wr := TSr.out.bel.size
    try simp only [World.size_alloc, World.size_setCell] at hz_wr
    have all_c : wr.cell? ⟨w.heap.size, 0, none⟩ = some (.int .i64 l) ∧ wr.cell? ⟨w.heap.size, 1, none⟩ = some (.slice ma N mc) ∧ wr.cell? ⟨w.heap.size, 2, none⟩ = some (.slice ica N icc) ∧ wr.cell? ⟨w.heap.size + 1, 0, none⟩ = some (.int .i64 seg) ∧ wr.cell? ⟨w.heap.size + 1, 1, none⟩ = some (.slice wa lw wc) ∧ wr.cell? ⟨w.heap.size + 1, 2, none⟩ = some (.slice ka lk kc) ∧ wr.cell? ⟨w.heap.size + 1, 3, none⟩ = some (.slice va lv vc) ∧ wr.cell? ⟨w.heap.size + 1, 4, none⟩ = some (.slice ca lc cc) ∧ wr.cell? ⟨w.heap.size + 1, 5, none⟩ = some (.int .u64 laid) ∧ wr.cell? ⟨w.heap.size + 1 + 1, 0, none⟩ = some (.int .i64 0) ∧ wr.cell? ⟨w.heap.size + 1 + 1, 1, none⟩ = some (.slice none 0 0) ∧ wr.cell? ⟨w.heap.size + 1 + 1, 2, none⟩ = some (.slice none 0 0) := by refine ⟨?_, ?_, ?_, ?_, ?_, ?_, ?_, ?_, ?_, ?_, ?_, ?_⟩ <;> (refine (TSr.out.bel.cell ?_).trans ?_ <;> first | (first | (with_reducible assumption) | omega | (simp only [szW] <;> omega) | (simp <;> omega)) | (first | (with_reducible assumption) | ((try simp (disch := first | omega | (simp only [szW] <;> omega) | fail) only [ceW]) <;> first | (with_reducible assumption) | rfl)))
    have all_f : wr.frozen? ⟨w.heap.size + 1 + 1, 0, none⟩ = false ∧ wr.frozen? ⟨w.heap.size + 1 + 1, 1, none⟩ = false ∧ wr.frozen? ⟨w.heap.size + 1 + 1, 2, none⟩ = false := by refine ⟨?_, ?_, ?_⟩ <;> (refine (TSr.out.bel.frozen ?_).trans ?_ <;> first | (first | (with_reducible assumption) | omega | (simp only [szW] <;> omega) | (simp <;> omega)) | (first | (with_reducible assumption) | ((try simp (disch := first | omega | (simp only [szW] <;> omega) | fail) only [ceW]) <;> first | (with_reducible assumption) | rfl)))
    have all_z : w.heap.size < wr.heap.size ∧ w.heap.size + 1 < wr.heap.size ∧ w.heap.size + 1 + 1 < wr.heap.size := by refine ⟨?_, ?_, ?_⟩ <;> (omega)
    clear c_x0 c_x1 c_x2 c_s0 c_s1 c_s2 c_s3 c_s4 c_s5 c_r0 c_r1 c_r2 f_r0 f_r1 f_r2 z_x z_s z_r
    obtain ⟨c_x0, c_x1, c_x2, c_s0, c_s1, c_s2, c_s3, c_s4, c_s5, c_r0, c_r1, c_r2⟩ := all_c
    try clear all_c
    obtain ⟨f_r0, f_r1, f_r2⟩ := all_f
    try clear all_f
    obtain ⟨z_x, z_s, z_r⟩ := all_z
    try clear all_z
    have hzr := TSr.out.bel.size
    have HMG := Lib.hid hmg
    clear hmg TS3
    by_cases h0 : m = 0
    · subst h0
      have HT := Lib.hid (TSr.out.eq hL (f' := T1) (g' := T2) (fun n n1 n2 => tdF_far (by omega)) (fun n n1 n2 => tdF_far (by omega)))
      have c0 := TSr.out.c0
      have c1 := TSr.out.c1
      have c2 := TSr.out.c2
      have hbw : b ≠ w.heap.size + 1 + 1 := by
        have := TSr.out.bel
        have := World.block_lt_of_cell? _ _ c0
        omega
      clear TSr
      go_wp2
      have hsw := three_set (w2 := wr) (b := w.heap.size + 1 + 1) (x := .int .i64 l) (y := .slice (some ⟨g1, 0, none⟩) N k1) (z := .slice (some ⟨g2, 0, none⟩) N k2) c_r0 c_r1 c_r2
      have hgg := (HT.out.o1.lt g1 rfl).1
      have hgg2 := (HT.out.o2.lt g2 rfl).1
      refine bodyPost_ret (results_c rfl rfl (run_loadVar_many _ Try.underlying25 rfl (by kernel_rfl) (three_at hsw.1 hsw.2.1 hsw.2.2))) rfl ⟨_, _, rfl, ?_, ?_, ?_⟩
      · have hlen : ((lay L 1).map T1).length = N := by rw [List.length_map, HLL.out]; have := HLT.out; omega
        rw [hlen]
        exact owns_base (owns_heap HT.out.o1 fun j hj => by cases hj; rw [heap_setCell_ne _ _ _ (by dsimp only; omega), heap_setCell_ne _ _ _ (by dsimp only; omega), heap_setCell_ne _ _ _ (by dsimp only; omega)]) (by omega)
      · have hlen : ((lay L 1).map T2).length = N := by rw [List.length_map, HLL.out]; have := HLT.out; omega
        rw [hlen]
        exact owns_base (owns_heap HT.out.o2 fun j hj => by cases hj; rw [heap_setCell_ne _ _ _ (by dsimp only; omega), heap_setCell_ne _ _ _ (by dsimp only; omega), heap_setCell_ne _ _ _ (by dsimp only; omega)]) (by omega)
      · exact (((below_via HT.out.bel HB0.out (by omega)).setCell (by dsimp only; omega) _).setCell (by dsimp only; omega) _).setCell (by dsimp only; omega) _
    · obtain ⟨k, rfl⟩ : ∃ k, m = k + 1 := ⟨m - 1, by omega⟩
      have hkc : ((k + 1 : Nat) : Int) = (k : Int) + 1 := by push_cast; rfl
      have U1 := Lib.hid (UN.out (k + 1) (by omega) hmN)
      have SK := Lib.hid (HSK.out (k + 1) (by omega) hmN)
      have LE := Lib.hid (HLF.out (k + 1))
      have IE := Lib.hid (HIN.out (k + 1) (by omega))
      rw [hkc] at U1 ⊢
      have hwk : IntKind.i64.wrap (k : Int) = (k : Int) := IntWalk.i64_in _ (by omega)
      have hwk1 : IntKind.i64.wrap ((k : Int) + 1) = (k : Int) + 1 := IntWalk.i64_in _ (by omega)
      have hk2 : k + 1 < 2 ^ L := by have := HLT.out; omega
      have HK2 := Lib.hid hk2
      have hk1 : ((k : Int) + 1).toNat = k + 1 := by omega
      have hge : decide ((k : Int) + 1 ≥ 1) = true := decide_eq_true (by omega)
      generalize A (k + 1) = aa at *
      generalize B (k + 1) = bb at *
      clear hkc h0 hk2
      by_cases hA : hi ≤ aa
      · have s12 := SK.out (.inl hA)
        have HS1 := Lib.hid s12
        have eA : decide (aa ≥ hi) = true := by simpa using hA
        clear s12 SK LE IE
        go_wp2_with fail
        refine (U1.out _).mono ?_
        rintro e w' ⟨rfl, rfl⟩
        go_wp2
        go_roundg (gk - 1)
        case measure => have := HMG.out; omega
        case rel => exact ⟨k, by have := HMG.out; omega, by omega, by go_num, by rw [← tdF_skip HS1.out.1, ← tdF_skip HS1.out.2]; exact TSr⟩
      · have eA : decide (aa ≥ hi) = false := by simpa using hA
        by_cases hB : bb ≤ lo
        · have s12 := SK.out (.inr hB)
          have HS1 := Lib.hid s12
          have eB : decide (bb ≤ lo) = true := by simpa using hB
          clear s12 SK LE IE
          go_wp2_with fail
          refine (U1.out _).mono ?_
          rintro e w' ⟨rfl, rfl⟩
          go_wp2
          go_roundg (gk - 1)
          case measure => have := HMG.out; omega
          case rel => exact ⟨k, by have := HMG.out; omega, by omega, by go_num, by rw [← tdF_skip HS1.out.1, ← tdF_skip HS1.out.2]; exact TSr⟩
        · have eB : decide (bb ≤ lo) = false := by simpa using hB
          obtain ⟨p, hp⟩ : ∃ p, vpos L (k + 1) = p := ⟨_, rfl⟩
          have hpN : p < N := by rw [← hp]; have := (vpos_lay hL (n := k + 1) (by omega) HK2.out).1; have := HLT.out; omega
          have HP := Lib.hid hp
          clear hp
          by_cases hFk : F ≤ k + 1
          · obtain ⟨s1, s2⟩ := LE.out hFk hmN (by omega) (by omega)
            have hkN : k < N := by omega
            obtain ⟨j, hj⟩ : ∃ j, k + 1 - F = j := ⟨_, rfl⟩
            rw [hj] at s1 s2
            have hjI : (k : Int) + 1 - (F : Int) = (j : Int) := by omega
            have hwj : IntKind.i64.wrap (j : Int) = (j : Int) := IntWalk.i64_in _ (by omega)
            have L1 := Lib.hid (LF.out j (by omega) wr (below_via TSr.out.bel HB0.out (by omega)))
            have HS1 := Lib.hid (And.intro s1 s2)
            have eF : decide ((k : Int) + 1 ≥ (F : Int)) = true := by simp; omega
            clear s1 s2 SK LE IE hj
            generalize (lf j).1 = X at *
            generalize (lf j).2 = Y at *
            go_wp2_with fail
            refine (U1.out _).mono ?_
            rintro e w' ⟨rfl, rfl⟩
            go_wp2_with fail
            refine L1.out.mono ?_
            rintro e w5 ⟨rfl, hb5⟩
            go_wp2
            have hz5 := hb5.size
            generalize hw6 : w5.alloc (.cells #[.int .i64 X, .int .i64 Y] 125) = w6
            have hb6 : Below wr.heap.size wr w6 := by rw [← hw6]; exact hb5.alloc hz5 _
            have t0 : w6.cell? ⟨w5.heap.size, 0, none⟩ = some (.int .i64 X) := by rw [← hw6]; ((try simp (disch := first | omega | (simp only [szW] <;> omega) | fail) only [ceW]) <;> rfl)
            have t1 : w6.cell? ⟨w5.heap.size, 1, none⟩ = some (.int .i64 Y) := by rw [← hw6]; ((try simp (disch := first | omega | (simp only [szW] <;> omega) | fail) only [ceW]) <;> rfl)
            have T6 := Lib.hid (TSr.out.below hb6)
            have hg1w := (TSr.out.o1.lt g1 rfl).2
            have hg2w := (TSr.out.o2.lt g2 rfl).2
            have hn1 : w5.heap.size ≠ g1 := by omega
            have hn2 : w5.heap.size ≠ g2 := by omega
            clear hw6 hb5 hb6 TSr
            have c1 := T6.out.c1
            have c2 := T6.out.c2
            obtain ⟨bp, op, rfl, cp, np1, np2⟩ := T6.out.pg hL (n := k) HK2.out
            obtain ⟨d1, f1⟩ := T6.out.r1 hL (n := k + 1) (by omega) HK2.out
            rw [HP.out] at cp d1 f1
            generalize tdF T1 u1 (k + 1) (k + 1) = y1 at d1
            have n12' := T6.out.n12
            go_still_tail 9, (by kernel_rfl)
            go_wp2
            have T7 : Hid (TS l L N wz.heap.size b g1 g2 k1 k2 (some ⟨bp, op, none⟩) wz (upd (tdF T1 u1 (k + 1)) (k + 1) X) (tdF T2 u2 (k + 1)) ((w6.setCell ⟨g1, p, none⟩ (.int .i64 X)).drew)) := Lib.hid (by have h := T6.out.s1 hL (n := k + 1) (by omega) HK2.out X; rw [HP.out] at h; exact h.below (Below.drew (Below.refl _ _)))
            have t1' : ((w6.setCell ⟨g1, p, none⟩ (.int .i64 X)).drew).cell? ⟨w5.heap.size, 1, none⟩ = some (.int .i64 Y) := (World.cell?_setCell_other _ _ _ _ (by intro e; injection e with e1; omega)).trans t1
            generalize (w6.setCell ⟨g1, p, none⟩ (.int .i64 X)).drew = w7 at *
            clear c1 c2 cp d1 f1 t0 t1 T6
            have c2 := T7.out.c2
            obtain ⟨bp', op', hpe, cp, -, -⟩ := T7.out.pg hL (n := k) HK2.out
            cases hpe
            obtain ⟨d2, f2⟩ := T7.out.r2 hL (n := k + 1) (by omega) HK2.out
            rw [HP.out] at cp d2 f2
            generalize tdF T2 u2 (k + 1) (k + 1) = y2 at d2
            go_still_tail 9, (by kernel_rfl)
            go_wp2
            go_roundg (gk - 1)
            case measure => have := HMG.out; omega
            case rel =>
              refine ⟨k, by have := HMG.out; omega, by omega, by go_num, Lib.hid ?_⟩
              have h := T7.out.s2 hL (n := k + 1) (by omega) HK2.out Y
              rw [HP.out, tdF_step HS1.out.1, tdF_step HS1.out.2] at h
              exact h.below (Below.drew (Below.refl _ _))
          · obtain ⟨s1, s2⟩ := IE.out (by omega) (by omega) (by omega)
            rw [show 2 * (k + 1) + 1 = 2 * k + 2 + 1 by omega, show 2 * (k + 1) = 2 * k + 1 + 1 by omega] at s1 s2
            obtain ⟨q, hq⟩ : ∃ q, 2 * k + 1 = q := ⟨_, rfl⟩
            obtain ⟨r, hr⟩ : ∃ r, 2 * k + 2 = r := ⟨_, rfl⟩
            rw [hq, hr] at s1 s2
            have hrI : (2 : Int) * ((k : Int) + 1) = (r : Int) := by omega
            have hqI : (r : Int) - 1 = (q : Int) := by omega
            have hwr : IntKind.i64.wrap (r : Int) = (r : Int) := IntWalk.i64_in _ (by omega)
            have hwq : IntKind.i64.wrap (q : Int) = (q : Int) := IntWalk.i64_in _ (by omega)
            have hrN : r < N := by omega
            have hqN : q < N := by omega
            have hkN : k < N := by omega
            have HQ2 : Hid (q + 1 < 2 ^ L) := Lib.hid (by have := HLT.out; omega)
            have HR2 : Hid (r + 1 < 2 ^ L) := Lib.hid (by have := HLT.out; omega)
            have HKQ : Hid (k + 1 < q + 1 ∧ k + 1 < r + 1) := Lib.hid (by omega)
            have HS1 := Lib.hid (And.intro s1 s2)
            have eF : decide ((k : Int) + 1 ≥ (F : Int)) = false := by simp; omega
            clear s1 s2 SK LE IE hq hr
            obtain ⟨pl, hpl⟩ : ∃ p, vpos L (q + 1) = p := ⟨_, rfl⟩
            obtain ⟨pr, hpr⟩ : ∃ p, vpos L (r + 1) = p := ⟨_, rfl⟩
            have hplN : pl < N := by rw [← hpl]; have := (vpos_lay hL (n := q + 1) (by omega) HQ2.out).1; have := HLT.out; omega
            have hprN : pr < N := by rw [← hpr]; have := (vpos_lay hL (n := r + 1) (by omega) HR2.out).1; have := HLT.out; omega
            have HPL := Lib.hid hpl
            have HPR := Lib.hid hpr
            clear hpl hpr
            obtain ⟨bp, op, rfl, cp, np1, np2⟩ := TSr.out.pg hL (n := k) HK2.out
            obtain ⟨bp', op', hpe, cq, -, -⟩ := TSr.out.pg hL (n := q) HQ2.out
            cases hpe
            obtain ⟨bp', op', hpe, cr, -, -⟩ := TSr.out.pg hL (n := r) HR2.out
            cases hpe
            rw [HP.out] at cp
            rw [HPL.out] at cq
            rw [HPR.out] at cr
            go_wp2_with fail
            refine (U1.out _).mono ?_
            rintro e w' ⟨rfl, rfl⟩
            go_upto_region 13 with (fail)
            go_quiet (fail)
            have T6 := Lib.hid (TSr.out.below (below_drewN (Below.refl _ wr) nq))
            go_upto_region 14 with (fail)
            generalize wr.drewN nq = w6 at *
            clear cp cq cr TSr
            have c2 := T6.out.c2
            obtain ⟨bp', op', hpe, cp, -, -⟩ := T6.out.pg hL (n := k) HK2.out
            cases hpe
            obtain ⟨d2, f2⟩ := T6.out.r2 hL (n := k + 1) (by omega) HK2.out
            obtain ⟨dl, -⟩ := T6.out.r2 hL (n := q + 1) (by omega) HQ2.out
            obtain ⟨dr, -⟩ := T6.out.r2 hL (n := r + 1) (by omega) HR2.out
            rw [HP.out] at cp d2 f2
            rw [HPL.out, tdF_far HKQ.out.1] at dl
            rw [HPR.out, tdF_far HKQ.out.2] at dr
            generalize tdF T2 u2 (k + 1) (k + 1) = y2 at d2
            have HCL2 : Hid (∃ x, T2 (q + 1) = x) := Lib.hid ⟨_, rfl⟩
            obtain ⟨CL, hCL⟩ := HCL2.out
            obtain ⟨CR, hCR⟩ : ∃ x, T2 (r + 1) = x := ⟨_, rfl⟩
            obtain ⟨ML, hML⟩ : ∃ x, T1 (q + 1) = x := ⟨_, rfl⟩
            obtain ⟨MR, hMR⟩ : ∃ x, T1 (r + 1) = x := ⟨_, rfl⟩
            rw [hCL] at dl
            rw [hCR] at dr
            rw [hCL, hCR, hML, hMR] at HS1
            have HV := Lib.hid (And.intro (And.intro hCL hCR) (And.intro hML hMR))
            clear hCL hCR hML hMR HCL2
            go_still_tail 18, (by kernel_rfl)
            go_wp2
            have T7 : Hid (TS l L N wz.heap.size b g1 g2 k1 k2 (some ⟨bp, op, none⟩) wz (tdF T1 u1 (k + 1)) (upd (tdF T2 u2 (k + 1)) (k + 1) (wrap64 (CL + CR))) ((w6.setCell ⟨g2, p, none⟩ (.int .i64 (wrap64 (CL + CR)))).drew)) := Lib.hid (by have h := T6.out.s2 hL (n := k + 1) (by omega) HK2.out (wrap64 (CL + CR)); rw [HP.out] at h; exact h.below (Below.drew (Below.refl _ _)))
            generalize (w6.setCell ⟨g2, p, none⟩ (.int .i64 (wrap64 (CL + CR)))).drew = w7 at *
            clear c2 cp d2 f2 dl dr T6
            have c1 := T7.out.c1
            obtain ⟨bp', op', hpe, cp, -, -⟩ := T7.out.pg hL (n := k) HK2.out
            cases hpe
            obtain ⟨d1, f1⟩ := T7.out.r1 hL (n := k + 1) (by omega) HK2.out
            obtain ⟨dl, -⟩ := T7.out.r1 hL (n := q + 1) (by omega) HQ2.out
            rw [HP.out] at cp d1 f1
            rw [HPL.out, tdF_far HKQ.out.1, HV.out.2.1] at dl
            generalize tdF T1 u1 (k + 1) (k + 1) = y1 at d1
            go_still_tail 12, (by kernel_rfl)
            go_upto_region 16 with (fail)
            have T8 : Hid (TS l L N wz.heap.size b g1 g2 k1 k2 (some ⟨bp, op, none⟩) wz (upd (tdF T1 u1 (k + 1)) (k + 1) ML) (upd (tdF T2 u2 (k + 1)) (k + 1) (wrap64 (CL + CR))) ((w7.setCell ⟨g1, p, none⟩ (.int .i64 ML)).drew)) := Lib.hid (by have h := T7.out.s1 hL (n := k + 1) (by omega) HK2.out ML; rw [HP.out] at h; exact h.below (Below.drew (Below.refl _ _)))
            generalize (w7.setCell ⟨g1, p, none⟩ (.int .i64 ML)).drew = w8 at *
            clear c1 cp d1 f1 dl T7
            have c1 := T8.out.c1
            have c2 := T8.out.c2
            obtain ⟨bp', op', hpe, cp, -, -⟩ := T8.out.pg hL (n := k) HK2.out
            cases hpe
            obtain ⟨d1, f1⟩ := T8.out.r1 hL (n := k + 1) (by omega) HK2.out
            obtain ⟨dr1, -⟩ := T8.out.r1 hL (n := r + 1) (by omega) HR2.out
            obtain ⟨dr, -⟩ := T8.out.r2 hL (n := r + 1) (by omega) HR2.out
            rw [HP.out] at cp d1 f1
            rw [HPR.out, upd_far (by have := HKQ.out.2; omega), tdF_far HKQ.out.2, HV.out.2.2] at dr1
            rw [HPR.out, upd_far (by have := HKQ.out.2; omega), tdF_far HKQ.out.2, HV.out.1.2] at dr
            generalize upd (tdF T1 u1 (k + 1)) (k + 1) ML (k + 1) = y1 at d1
            by_cases hCR : 0 < CR
            · have eC : decide (CR > 0) = true := by simpa using hCR
              have HS2 : Hid (T1 (k + 1) = MR) := Lib.hid (by rw [HS1.out.1, if_pos hCR])
              go_upto_region 17 with (fail)
              go_still_tail 12, (by kernel_rfl)
              go_wp2
              go_roundg (gk - 1)
              case measure => have := HMG.out; omega
              case rel =>
                refine ⟨k, by have := HMG.out; omega, by omega, by go_num, Lib.hid ?_⟩
                have h := T8.out.s1 hL (n := k + 1) (by omega) HK2.out MR
                rw [HP.out, upd_two, tdF_step HS2.out, tdF_step HS1.out.2] at h
                exact h.below (Below.drew (Below.refl _ _))
            · have eC : decide (CR > 0) = false := by simpa using hCR
              have HS2 : Hid (T1 (k + 1) = ML) := Lib.hid (by rw [HS1.out.1, if_neg hCR])
              go_wp2
              go_roundg (gk - 1)
              case measure => have := HMG.out; omega
              case rel =>
                refine ⟨k, by have := HMG.out; omega, by omega, by go_num, Lib.hid ?_⟩
                have h := T8.out
                rw [tdF_step HS2.out, tdF_step HS1.out.2] at h
                exact h
end

section
open Go.RowKit Go.Shelf

set_option maxRecDepth 100000 in
set_option maxHeartbeats 1000000 in
theorem Win20_no (l : Int) (ma ica : Option Addr) (mc icc lm li : Nat) (bseg : Int) (bwa bka bva bca : Option Addr) (bwc bkc bvc bcc blw blk blv blc : Nat) (blaid : Int) (lo hi : Int) (w : World) (bL : Int) (bm bc : List Int) (y : Int) (hy : y ≠ 0) (BI : Hid (∀ W, Below w.heap.size w W → Calls Try.prog 43 #[.agg #[.int .i64 bseg, .slice bwa blw bwc, .slice bka blk bkc, .slice bva blv bvc, .slice bca blc bcc, .int .u64 blaid]] W (FreshIx2 W bL bm bc (.int .i64 y)))) :
    Calls Try.prog 16 #[.agg #[.int .i64 l, .slice ma lm mc, .slice ica li icc], .agg #[.int .i64 bseg, .slice bwa blw bwc, .slice bka blk bkc, .slice bva blv bvc, .slice bca blc bcc, .int .u64 blaid], .int .i64 lo, .int .i64 hi] w (FreshIx2 w 0 [] [] (.int .i64 y)) := by
  have g1 : (y != 0) = true := by simpa using hy
  clear hy
  go_enter Try.func16, Try.ntmps16
  go_wp2_with fail
  refine (BI.out _ (by (repeat (first | with_reducible (first | exact Below.refl _ _ | assumption | exact Hid.out (by assumption) | refine Below.alloc ?_ ?_ _ | refine Below.setCell ?_ ?_ _ | refine below_drewN ?_ _ | refine Below.drew ?_ | refine below_via (by assumption) ?_ ?_) | (first | (with_reducible assumption) | omega | (simp only [szW] <;> omega) | (simp <;> omega)))))).mono ?_
  rintro e w1 ⟨v, u, rfl, o1, o2, hb1⟩
  have hz_w1 := hb1.size
  try simp only [World.size_alloc, World.size_setCell] at hz_w1
  have all_c : w1.cell? ⟨w.heap.size, 0, none⟩ = some (.int .i64 l) ∧ w1.cell? ⟨w.heap.size, 1, none⟩ = some (.slice ma lm mc) ∧ w1.cell? ⟨w.heap.size, 2, none⟩ = some (.slice ica li icc) ∧ w1.cell? ⟨w.heap.size + 1, 0, none⟩ = some (.int .i64 bseg) ∧ w1.cell? ⟨w.heap.size + 1, 1, none⟩ = some (.slice bwa blw bwc) ∧ w1.cell? ⟨w.heap.size + 1, 2, none⟩ = some (.slice bka blk bkc) ∧ w1.cell? ⟨w.heap.size + 1, 3, none⟩ = some (.slice bva blv bvc) ∧ w1.cell? ⟨w.heap.size + 1, 4, none⟩ = some (.slice bca blc bcc) ∧ w1.cell? ⟨w.heap.size + 1, 5, none⟩ = some (.int .u64 blaid) ∧ w1.cell? ⟨w.heap.size + 1 + 1, 0, none⟩ = some (.int .i64 0) ∧ w1.cell? ⟨w.heap.size + 1 + 1, 1, none⟩ = some (.slice none 0 0) ∧ w1.cell? ⟨w.heap.size + 1 + 1, 2, none⟩ = some (.slice none 0 0) := by refine ⟨?_, ?_, ?_, ?_, ?_, ?_, ?_, ?_, ?_, ?_, ?_, ?_⟩ <;> (refine (hb1.cell ?_).trans ?_ <;> first | (first | (with_reducible assumption) | omega | (simp only [szW] <;> omega) | (simp <;> omega)) | (first | (with_reducible assumption) | ((try simp (disch := first | omega | (simp only [szW] <;> omega) | fail) only [ceW]) <;> first | (with_reducible assumption) | rfl)))
  have all_f : w1.frozen? ⟨w.heap.size + 1 + 1, 0, none⟩ = false ∧ w1.frozen? ⟨w.heap.size + 1 + 1, 1, none⟩ = false ∧ w1.frozen? ⟨w.heap.size + 1 + 1, 2, none⟩ = false := by refine ⟨?_, ?_, ?_⟩ <;> (refine (hb1.frozen ?_).trans ?_ <;> first | (first | (with_reducible assumption) | omega | (simp only [szW] <;> omega) | (simp <;> omega)) | (first | (with_reducible assumption) | ((try simp (disch := first | omega | (simp only [szW] <;> omega) | fail) only [ceW]) <;> first | (with_reducible assumption) | rfl)))
  have all_z : w.heap.size < w1.heap.size ∧ w.heap.size + 1 < w1.heap.size ∧ w.heap.size + 1 + 1 < w1.heap.size := by refine ⟨?_, ?_, ?_⟩ <;> (omega)
  obtain ⟨c_x0, c_x1, c_x2, c_b0, c_b1, c_b2, c_b3, c_b4, c_b5, c_r0, c_r1, c_r2⟩ := all_c
  try clear all_c
  obtain ⟨f_r0, f_r1, f_r2⟩ := all_f
  try clear all_f
  obtain ⟨z_x, z_b, z_r⟩ := all_z
  try clear all_z
  have hB1 : Below w.heap.size w w1 := by (repeat (first | with_reducible (first | exact Below.refl _ _ | assumption | exact Hid.out (by assumption) | refine Below.alloc ?_ ?_ _ | refine Below.setCell ?_ ?_ _ | refine below_drewN ?_ _ | refine Below.drew ?_ | refine below_via (by assumption) ?_ ?_) | (first | (with_reducible assumption) | omega | (simp only [szW] <;> omega) | (simp <;> omega))))
  have hz1 := hb1.size
  simp only [World.size_alloc] at hz1
  obtain ⟨va1, vc1, rfl, -⟩ := owns_news o1
  obtain ⟨ua1, uc1, rfl, -⟩ := owns_news o2
  clear o1 o2 hb1
  go_wp2
  have hsw := three_set (w2 := w1) (b := w.heap.size + 1 + 1) (x := .int .i64 0) (y := .slice none 0 0) (z := .slice none 0 0) c_r0 c_r1 c_r2
  have hs7 : ((((w1.setCell ⟨w.heap.size + 1 + 1, 0, none⟩ (.int .i64 0)).setCell ⟨w.heap.size + 1 + 1, 1, none⟩ (.slice none 0 0)).setCell ⟨w.heap.size + 1 + 1, 2, none⟩ (.slice none 0 0))).heap.size = w1.heap.size := by simp only [World.size_setCell]
  have hB7 : Below w.heap.size w ((((w1.setCell ⟨w.heap.size + 1 + 1, 0, none⟩ (.int .i64 0)).setCell ⟨w.heap.size + 1 + 1, 1, none⟩ (.slice none 0 0)).setCell ⟨w.heap.size + 1 + 1, 2, none⟩ (.slice none 0 0))) := ((hB1.setCell (by dsimp only; omega) _).setCell (by dsimp only; omega) _).setCell (by dsimp only; omega) _
  generalize ((((w1.setCell ⟨w.heap.size + 1 + 1, 0, none⟩ (.int .i64 0)).setCell ⟨w.heap.size + 1 + 1, 1, none⟩ (.slice none 0 0)).setCell ⟨w.heap.size + 1 + 1, 2, none⟩ (.slice none 0 0))) = w7 at *
  have hal : Below w7.heap.size w7 (w7.alloc (.cells #[.int .i64 bL, .slice va1 bm.length vc1, .slice ua1 bc.length uc1] 25)) := (Below.refl _ w7).alloc (Nat.le_refl _) _
  refine bodyPost_ret (results_ct rfl rfl (run_loadVar_many _ Try.underlying25 rfl (by kernel_rfl) (three_at ((hal.cell (by dsimp only; omega)).trans hsw.1) ((hal.cell (by dsimp only; omega)).trans hsw.2.1) ((hal.cell (by dsimp only; omega)).trans hsw.2.2)))) rfl ⟨_, _, rfl, World.ownsRow_nil _ _ _ _, World.ownsRow_nil _ _ _ _, ?_⟩
  exact hB7.alloc (by omega) _

set_option maxRecDepth 100000 in
set_option maxHeartbeats 1000000 in
theorem Win20_bad (l : Int) (ma ica : Option Addr) (mc icc lm li : Nat) (bseg : Int) (bwa bka bva bca : Option Addr) (bwc bkc bvc bcc blw blk blv blc : Nat) (blaid : Int) (lo hi : Int) (w : World) (bL : Int) (bm bc : List Int) (BI : Hid (∀ W, Below w.heap.size w W → Calls Try.prog 43 #[.agg #[.int .i64 bseg, .slice bwa blw bwc, .slice bka blk bkc, .slice bva blv bvc, .slice bca blc bcc, .int .u64 blaid]] W (FreshIx2 W bL bm bc (.int .i64 0)))) (MY : Hid (∀ W, Below w.heap.size w W → Calls Try.prog 44 #[.agg #[.int .i64 l, .slice ma lm mc, .slice ica li icc]] W (AnsB W (.bool false)))) :
    Calls Try.prog 16 #[.agg #[.int .i64 l, .slice ma lm mc, .slice ica li icc], .agg #[.int .i64 bseg, .slice bwa blw bwc, .slice bka blk bkc, .slice bva blv bvc, .slice bca blc bcc, .int .u64 blaid], .int .i64 lo, .int .i64 hi] w (FreshIx2 w 0 [] [] (.int .i64 8)) := by
  go_enter Try.func16, Try.ntmps16
  go_wp2_with fail
  refine (BI.out _ (by (repeat (first | with_reducible (first | exact Below.refl _ _ | assumption | exact Hid.out (by assumption) | refine Below.alloc ?_ ?_ _ | refine Below.setCell ?_ ?_ _ | refine below_drewN ?_ _ | refine Below.drew ?_ | refine below_via (by assumption) ?_ ?_) | (first | (with_reducible assumption) | omega | (simp only [szW] <;> omega) | (simp <;> omega)))))).mono ?_
  rintro e w1 ⟨v, u, rfl, o1, o2, hb1⟩
  have hz_w1 := hb1.size
  try simp only [World.size_alloc, World.size_setCell] at hz_w1
  have all_c : w1.cell? ⟨w.heap.size, 0, none⟩ = some (.int .i64 l) ∧ w1.cell? ⟨w.heap.size, 1, none⟩ = some (.slice ma lm mc) ∧ w1.cell? ⟨w.heap.size, 2, none⟩ = some (.slice ica li icc) ∧ w1.cell? ⟨w.heap.size + 1, 0, none⟩ = some (.int .i64 bseg) ∧ w1.cell? ⟨w.heap.size + 1, 1, none⟩ = some (.slice bwa blw bwc) ∧ w1.cell? ⟨w.heap.size + 1, 2, none⟩ = some (.slice bka blk bkc) ∧ w1.cell? ⟨w.heap.size + 1, 3, none⟩ = some (.slice bva blv bvc) ∧ w1.cell? ⟨w.heap.size + 1, 4, none⟩ = some (.slice bca blc bcc) ∧ w1.cell? ⟨w.heap.size + 1, 5, none⟩ = some (.int .u64 blaid) ∧ w1.cell? ⟨w.heap.size + 1 + 1, 0, none⟩ = some (.int .i64 0) ∧ w1.cell? ⟨w.heap.size + 1 + 1, 1, none⟩ = some (.slice none 0 0) ∧ w1.cell? ⟨w.heap.size + 1 + 1, 2, none⟩ = some (.slice none 0 0) := by refine ⟨?_, ?_, ?_, ?_, ?_, ?_, ?_, ?_, ?_, ?_, ?_, ?_⟩ <;> (refine (hb1.cell ?_).trans ?_ <;> first | (first | (with_reducible assumption) | omega | (simp only [szW] <;> omega) | (simp <;> omega)) | (first | (with_reducible assumption) | ((try simp (disch := first | omega | (simp only [szW] <;> omega) | fail) only [ceW]) <;> first | (with_reducible assumption) | rfl)))
  have all_f : w1.frozen? ⟨w.heap.size + 1 + 1, 0, none⟩ = false ∧ w1.frozen? ⟨w.heap.size + 1 + 1, 1, none⟩ = false ∧ w1.frozen? ⟨w.heap.size + 1 + 1, 2, none⟩ = false := by refine ⟨?_, ?_, ?_⟩ <;> (refine (hb1.frozen ?_).trans ?_ <;> first | (first | (with_reducible assumption) | omega | (simp only [szW] <;> omega) | (simp <;> omega)) | (first | (with_reducible assumption) | ((try simp (disch := first | omega | (simp only [szW] <;> omega) | fail) only [ceW]) <;> first | (with_reducible assumption) | rfl)))
  have all_z : w.heap.size < w1.heap.size ∧ w.heap.size + 1 < w1.heap.size ∧ w.heap.size + 1 + 1 < w1.heap.size := by refine ⟨?_, ?_, ?_⟩ <;> (omega)
  obtain ⟨c_x0, c_x1, c_x2, c_b0, c_b1, c_b2, c_b3, c_b4, c_b5, c_r0, c_r1, c_r2⟩ := all_c
  try clear all_c
  obtain ⟨f_r0, f_r1, f_r2⟩ := all_f
  try clear all_f
  obtain ⟨z_x, z_b, z_r⟩ := all_z
  try clear all_z
  have hB1 : Below w.heap.size w w1 := by (repeat (first | with_reducible (first | exact Below.refl _ _ | assumption | exact Hid.out (by assumption) | refine Below.alloc ?_ ?_ _ | refine Below.setCell ?_ ?_ _ | refine below_drewN ?_ _ | refine Below.drew ?_ | refine below_via (by assumption) ?_ ?_) | (first | (with_reducible assumption) | omega | (simp only [szW] <;> omega) | (simp <;> omega))))
  have hz1 := hb1.size
  simp only [World.size_alloc] at hz1
  obtain ⟨va1, vc1, rfl, -⟩ := owns_news o1
  obtain ⟨ua1, uc1, rfl, -⟩ := owns_news o2
  clear o1 o2 hb1
  go_wp2_with fail
  refine (MY.out _ (by (repeat (first | with_reducible (first | exact Below.refl _ _ | assumption | exact Hid.out (by assumption) | refine Below.alloc ?_ ?_ _ | refine Below.setCell ?_ ?_ _ | refine below_drewN ?_ _ | refine Below.drew ?_ | refine below_via (by assumption) ?_ ?_) | (first | (with_reducible assumption) | omega | (simp only [szW] <;> omega) | (simp <;> omega)))))).mono ?_
  rintro e w2 ⟨rfl, hb2⟩
  have hz_w2 := hb2.size
  try simp only [World.size_alloc, World.size_setCell] at hz_w2
  have all_c : w2.cell? ⟨w.heap.size + 1 + 1, 0, none⟩ = some (.int .i64 0) ∧ w2.cell? ⟨w.heap.size + 1 + 1, 1, none⟩ = some (.slice none 0 0) ∧ w2.cell? ⟨w.heap.size + 1 + 1, 2, none⟩ = some (.slice none 0 0) ∧ w2.cell? ⟨w.heap.size + 1, 4, none⟩ = some (.slice bca blc bcc) ∧ w2.cell? ⟨w.heap.size, 0, none⟩ = some (.int .i64 l) := by refine ⟨?_, ?_, ?_, ?_, ?_⟩ <;> (refine (hb2.cell ?_).trans ?_ <;> first | (first | (with_reducible assumption) | omega | (simp only [szW] <;> omega) | (simp <;> omega)) | (first | (with_reducible assumption) | ((try simp (disch := first | omega | (simp only [szW] <;> omega) | fail) only [ceW]) <;> first | (with_reducible assumption) | rfl)))
  have all_f : w2.frozen? ⟨w.heap.size + 1 + 1, 0, none⟩ = false ∧ w2.frozen? ⟨w.heap.size + 1 + 1, 1, none⟩ = false ∧ w2.frozen? ⟨w.heap.size + 1 + 1, 2, none⟩ = false := by refine ⟨?_, ?_, ?_⟩ <;> (refine (hb2.frozen ?_).trans ?_ <;> first | (first | (with_reducible assumption) | omega | (simp only [szW] <;> omega) | (simp <;> omega)) | (first | (with_reducible assumption) | ((try simp (disch := first | omega | (simp only [szW] <;> omega) | fail) only [ceW]) <;> first | (with_reducible assumption) | rfl)))
  have all_z : w.heap.size + 1 + 1 < w2.heap.size ∧ w.heap.size + 1 < w2.heap.size ∧ w.heap.size < w2.heap.size := by refine ⟨?_, ?_, ?_⟩ <;> (omega)
  clear c_r0 c_r1 c_r2 f_r0 f_r1 f_r2 z_r
  obtain ⟨c_r0, c_r1, c_r2, c_c4, c_d0⟩ := all_c
  try clear all_c
  obtain ⟨f_r0, f_r1, f_r2⟩ := all_f
  try clear all_f
  obtain ⟨z_r, z_c, z_d⟩ := all_z
  try clear all_z
  have hB2 : Below w.heap.size w w2 := by (repeat (first | with_reducible (first | exact Below.refl _ _ | assumption | exact Hid.out (by assumption) | refine Below.alloc ?_ ?_ _ | refine Below.setCell ?_ ?_ _ | refine below_drewN ?_ _ | refine Below.drew ?_ | refine below_via (by assumption) ?_ ?_) | (first | (with_reducible assumption) | omega | (simp only [szW] <;> omega) | (simp <;> omega))))
  clear hb2
  go_wp2
  have hsw := three_set (w2 := w2) (b := w.heap.size + 1 + 1) (x := .int .i64 0) (y := .slice none 0 0) (z := .slice none 0 0) c_r0 c_r1 c_r2
  exact bodyPost_ret (results_ct rfl rfl (run_loadVar_many _ Try.underlying25 rfl (by kernel_rfl) (three_at hsw.1 hsw.2.1 hsw.2.2))) rfl ⟨_, _, rfl, World.ownsRow_nil _ _ _ _, World.ownsRow_nil _ _ _ _, ((hB2.setCell (by dsimp only; omega) _).setCell (by dsimp only; omega) _).setCell (by dsimp only; omega) _⟩

set_option maxRecDepth 100000 in
set_option maxHeartbeats 1000000 in
theorem Win20_len (l : Int) (ma ica : Option Addr) (mc icc lm li : Nat) (bseg : Int) (bwa bka bva bca : Option Addr) (bwc bkc bvc bcc blw blk blv blc : Nat) (blaid : Int) (lo hi : Int) (w : World) (bL : Int) (bm bc : List Int) (F : Nat) (hF : F ≠ blc) (BI : Hid (∀ W, Below w.heap.size w W → Calls Try.prog 43 #[.agg #[.int .i64 bseg, .slice bwa blw bwc, .slice bka blk bkc, .slice bva blv bvc, .slice bca blc bcc, .int .u64 blaid]] W (FreshIx2 W bL bm bc (.int .i64 0)))) (MY : Hid (∀ W, Below w.heap.size w W → Calls Try.prog 44 #[.agg #[.int .i64 l, .slice ma lm mc, .slice ica li icc]] W (AnsB W (.bool true)))) (FR : Hid (∀ W, Calls Try.prog 45 #[.int .i64 l] W fun e w' => e = .returned (.int .i64 F) ∧ W = w')) :
    Calls Try.prog 16 #[.agg #[.int .i64 l, .slice ma lm mc, .slice ica li icc], .agg #[.int .i64 bseg, .slice bwa blw bwc, .slice bka blk bkc, .slice bva blv bvc, .slice bca blc bcc, .int .u64 blaid], .int .i64 lo, .int .i64 hi] w (FreshIx2 w 0 [] [] (.int .i64 2)) := by
  have e1 : ((F : Int) != (blc : Int)) = true := by simp; omega
  go_enter Try.func16, Try.ntmps16
  go_wp2_with fail
  refine (BI.out _ (by (repeat (first | with_reducible (first | exact Below.refl _ _ | assumption | exact Hid.out (by assumption) | refine Below.alloc ?_ ?_ _ | refine Below.setCell ?_ ?_ _ | refine below_drewN ?_ _ | refine Below.drew ?_ | refine below_via (by assumption) ?_ ?_) | (first | (with_reducible assumption) | omega | (simp only [szW] <;> omega) | (simp <;> omega)))))).mono ?_
  rintro e w1 ⟨v, u, rfl, o1, o2, hb1⟩
  have hz_w1 := hb1.size
  try simp only [World.size_alloc, World.size_setCell] at hz_w1
  have all_c : w1.cell? ⟨w.heap.size, 0, none⟩ = some (.int .i64 l) ∧ w1.cell? ⟨w.heap.size, 1, none⟩ = some (.slice ma lm mc) ∧ w1.cell? ⟨w.heap.size, 2, none⟩ = some (.slice ica li icc) ∧ w1.cell? ⟨w.heap.size + 1, 0, none⟩ = some (.int .i64 bseg) ∧ w1.cell? ⟨w.heap.size + 1, 1, none⟩ = some (.slice bwa blw bwc) ∧ w1.cell? ⟨w.heap.size + 1, 2, none⟩ = some (.slice bka blk bkc) ∧ w1.cell? ⟨w.heap.size + 1, 3, none⟩ = some (.slice bva blv bvc) ∧ w1.cell? ⟨w.heap.size + 1, 4, none⟩ = some (.slice bca blc bcc) ∧ w1.cell? ⟨w.heap.size + 1, 5, none⟩ = some (.int .u64 blaid) ∧ w1.cell? ⟨w.heap.size + 1 + 1, 0, none⟩ = some (.int .i64 0) ∧ w1.cell? ⟨w.heap.size + 1 + 1, 1, none⟩ = some (.slice none 0 0) ∧ w1.cell? ⟨w.heap.size + 1 + 1, 2, none⟩ = some (.slice none 0 0) := by refine ⟨?_, ?_, ?_, ?_, ?_, ?_, ?_, ?_, ?_, ?_, ?_, ?_⟩ <;> (refine (hb1.cell ?_).trans ?_ <;> first | (first | (with_reducible assumption) | omega | (simp only [szW] <;> omega) | (simp <;> omega)) | (first | (with_reducible assumption) | ((try simp (disch := first | omega | (simp only [szW] <;> omega) | fail) only [ceW]) <;> first | (with_reducible assumption) | rfl)))
  have all_f : w1.frozen? ⟨w.heap.size + 1 + 1, 0, none⟩ = false ∧ w1.frozen? ⟨w.heap.size + 1 + 1, 1, none⟩ = false ∧ w1.frozen? ⟨w.heap.size + 1 + 1, 2, none⟩ = false := by refine ⟨?_, ?_, ?_⟩ <;> (refine (hb1.frozen ?_).trans ?_ <;> first | (first | (with_reducible assumption) | omega | (simp only [szW] <;> omega) | (simp <;> omega)) | (first | (with_reducible assumption) | ((try simp (disch := first | omega | (simp only [szW] <;> omega) | fail) only [ceW]) <;> first | (with_reducible assumption) | rfl)))
  have all_z : w.heap.size < w1.heap.size ∧ w.heap.size + 1 < w1.heap.size ∧ w.heap.size + 1 + 1 < w1.heap.size := by refine ⟨?_, ?_, ?_⟩ <;> (omega)
  obtain ⟨c_x0, c_x1, c_x2, c_b0, c_b1, c_b2, c_b3, c_b4, c_b5, c_r0, c_r1, c_r2⟩ := all_c
  try clear all_c
  obtain ⟨f_r0, f_r1, f_r2⟩ := all_f
  try clear all_f
  obtain ⟨z_x, z_b, z_r⟩ := all_z
  try clear all_z
  have hB1 : Below w.heap.size w w1 := by (repeat (first | with_reducible (first | exact Below.refl _ _ | assumption | exact Hid.out (by assumption) | refine Below.alloc ?_ ?_ _ | refine Below.setCell ?_ ?_ _ | refine below_drewN ?_ _ | refine Below.drew ?_ | refine below_via (by assumption) ?_ ?_) | (first | (with_reducible assumption) | omega | (simp only [szW] <;> omega) | (simp <;> omega))))
  have hz1 := hb1.size
  simp only [World.size_alloc] at hz1
  obtain ⟨va1, vc1, rfl, -⟩ := owns_news o1
  obtain ⟨ua1, uc1, rfl, -⟩ := owns_news o2
  clear o1 o2 hb1
  go_wp2_with fail
  refine (MY.out _ (by (repeat (first | with_reducible (first | exact Below.refl _ _ | assumption | exact Hid.out (by assumption) | refine Below.alloc ?_ ?_ _ | refine Below.setCell ?_ ?_ _ | refine below_drewN ?_ _ | refine Below.drew ?_ | refine below_via (by assumption) ?_ ?_) | (first | (with_reducible assumption) | omega | (simp only [szW] <;> omega) | (simp <;> omega)))))).mono ?_
  rintro e w2 ⟨rfl, hb2⟩
  have hz_w2 := hb2.size
  try simp only [World.size_alloc, World.size_setCell] at hz_w2
  have all_c : w2.cell? ⟨w.heap.size + 1 + 1, 0, none⟩ = some (.int .i64 0) ∧ w2.cell? ⟨w.heap.size + 1 + 1, 1, none⟩ = some (.slice none 0 0) ∧ w2.cell? ⟨w.heap.size + 1 + 1, 2, none⟩ = some (.slice none 0 0) ∧ w2.cell? ⟨w.heap.size + 1, 4, none⟩ = some (.slice bca blc bcc) ∧ w2.cell? ⟨w.heap.size, 0, none⟩ = some (.int .i64 l) := by refine ⟨?_, ?_, ?_, ?_, ?_⟩ <;> (refine (hb2.cell ?_).trans ?_ <;> first | (first | (with_reducible assumption) | omega | (simp only [szW] <;> omega) | (simp <;> omega)) | (first | (with_reducible assumption) | ((try simp (disch := first | omega | (simp only [szW] <;> omega) | fail) only [ceW]) <;> first | (with_reducible assumption) | rfl)))
  have all_f : w2.frozen? ⟨w.heap.size + 1 + 1, 0, none⟩ = false ∧ w2.frozen? ⟨w.heap.size + 1 + 1, 1, none⟩ = false ∧ w2.frozen? ⟨w.heap.size + 1 + 1, 2, none⟩ = false := by refine ⟨?_, ?_, ?_⟩ <;> (refine (hb2.frozen ?_).trans ?_ <;> first | (first | (with_reducible assumption) | omega | (simp only [szW] <;> omega) | (simp <;> omega)) | (first | (with_reducible assumption) | ((try simp (disch := first | omega | (simp only [szW] <;> omega) | fail) only [ceW]) <;> first | (with_reducible assumption) | rfl)))
  have all_z : w.heap.size + 1 + 1 < w2.heap.size ∧ w.heap.size + 1 < w2.heap.size ∧ w.heap.size < w2.heap.size := by refine ⟨?_, ?_, ?_⟩ <;> (omega)
  clear c_r0 c_r1 c_r2 f_r0 f_r1 f_r2 z_r
  obtain ⟨c_r0, c_r1, c_r2, c_c4, c_d0⟩ := all_c
  try clear all_c
  obtain ⟨f_r0, f_r1, f_r2⟩ := all_f
  try clear all_f
  obtain ⟨z_r, z_c, z_d⟩ := all_z
  try clear all_z
  have hB2 : Below w.heap.size w w2 := by (repeat (first | with_reducible (first | exact Below.refl _ _ | assumption | exact Hid.out (by assumption) | refine Below.alloc ?_ ?_ _ | refine Below.setCell ?_ ?_ _ | refine below_drewN ?_ _ | refine Below.drew ?_ | refine below_via (by assumption) ?_ ?_) | (first | (with_reducible assumption) | omega | (simp only [szW] <;> omega) | (simp <;> omega))))
  clear hb2
  have QF := Lib.hid (fun q => Calls.quiet_of_same ((FR.out (w2.drewN q)).mono fun _ _ h => ⟨h.1, h.2.symm⟩))
  go_upto_region 6 with (fail)
  go_quiet (exact QF.out _)
  have hq : Below w2.heap.size w2 (w2.drewN nq) := below_drewN (Below.refl _ w2) nq
  clear QF
  generalize w2.drewN nq = w3 at *
  have hz_w3 := hq.size
  try simp only [World.size_alloc, World.size_setCell] at hz_w3
  have all_c : w3.cell? ⟨w.heap.size + 1 + 1, 0, none⟩ = some (.int .i64 0) ∧ w3.cell? ⟨w.heap.size + 1 + 1, 1, none⟩ = some (.slice none 0 0) ∧ w3.cell? ⟨w.heap.size + 1 + 1, 2, none⟩ = some (.slice none 0 0) ∧ w3.cell? ⟨w.heap.size + 1, 4, none⟩ = some (.slice bca blc bcc) ∧ w3.cell? ⟨w.heap.size, 0, none⟩ = some (.int .i64 l) := by refine ⟨?_, ?_, ?_, ?_, ?_⟩ <;> (refine (hq.cell ?_).trans ?_ <;> first | (first | (with_reducible assumption) | omega | (simp only [szW] <;> omega) | (simp <;> omega)) | (first | (with_reducible assumption) | ((try simp (disch := first | omega | (simp only [szW] <;> omega) | fail) only [ceW]) <;> first | (with_reducible assumption) | rfl)))
  have all_f : w3.frozen? ⟨w.heap.size + 1 + 1, 0, none⟩ = false ∧ w3.frozen? ⟨w.heap.size + 1 + 1, 1, none⟩ = false ∧ w3.frozen? ⟨w.heap.size + 1 + 1, 2, none⟩ = false := by refine ⟨?_, ?_, ?_⟩ <;> (refine (hq.frozen ?_).trans ?_ <;> first | (first | (with_reducible assumption) | omega | (simp only [szW] <;> omega) | (simp <;> omega)) | (first | (with_reducible assumption) | ((try simp (disch := first | omega | (simp only [szW] <;> omega) | fail) only [ceW]) <;> first | (with_reducible assumption) | rfl)))
  have all_z : w.heap.size + 1 + 1 < w3.heap.size ∧ w.heap.size + 1 < w3.heap.size ∧ w.heap.size < w3.heap.size := by refine ⟨?_, ?_, ?_⟩ <;> (omega)
  clear c_r0 c_r1 c_r2 c_c4 c_d0 f_r0 f_r1 f_r2 z_r z_c z_d
  obtain ⟨c_r0, c_r1, c_r2, c_c4, c_d0⟩ := all_c
  try clear all_c
  obtain ⟨f_r0, f_r1, f_r2⟩ := all_f
  try clear all_f
  obtain ⟨z_r, z_c, z_d⟩ := all_z
  try clear all_z
  have hB3 : Below w.heap.size w w3 := below_via hq hB2 hB2.size
  go_wp2
  have hsw := three_set (w2 := w3) (b := w.heap.size + 1 + 1) (x := .int .i64 0) (y := .slice none 0 0) (z := .slice none 0 0) c_r0 c_r1 c_r2
  exact bodyPost_ret (results_ct rfl rfl (run_loadVar_many _ Try.underlying25 rfl (by kernel_rfl) (three_at hsw.1 hsw.2.1 hsw.2.2))) rfl ⟨_, _, rfl, World.ownsRow_nil _ _ _ _, World.ownsRow_nil _ _ _ _, ((hB3.setCell (by dsimp only; omega) _).setCell (by dsimp only; omega) _).setCell (by dsimp only; omega) _⟩

set_option maxRecDepth 100000 in
set_option maxHeartbeats 1000000 in
theorem Win20_neg (l : Int) (ma ica : Option Addr) (mc icc lm li : Nat) (bseg : Int) (bwa bka bva bca : Option Addr) (bwc bkc bvc bcc blw blk blv blc : Nat) (blaid : Int) (lo hi : Int) (w : World) (bL : Int) (bm bc : List Int) (F : Nat) (hF : blc = F) (h0 : lo < 0) (BI : Hid (∀ W, Below w.heap.size w W → Calls Try.prog 43 #[.agg #[.int .i64 bseg, .slice bwa blw bwc, .slice bka blk bkc, .slice bva blv bvc, .slice bca blc bcc, .int .u64 blaid]] W (FreshIx2 W bL bm bc (.int .i64 0)))) (MY : Hid (∀ W, Below w.heap.size w W → Calls Try.prog 44 #[.agg #[.int .i64 l, .slice ma lm mc, .slice ica li icc]] W (AnsB W (.bool true)))) (FR : Hid (∀ W, Calls Try.prog 45 #[.int .i64 l] W fun e w' => e = .returned (.int .i64 F) ∧ W = w')) :
    Calls Try.prog 16 #[.agg #[.int .i64 l, .slice ma lm mc, .slice ica li icc], .agg #[.int .i64 bseg, .slice bwa blw bwc, .slice bka blk bkc, .slice bva blv bvc, .slice bca blc bcc, .int .u64 blaid], .int .i64 lo, .int .i64 hi] w (FreshIx2 w 0 [] [] (.int .i64 2)) := by
  subst hF
  have e1 : ((blc : Int) != (blc : Int)) = false := by simp
  have e2 : decide (lo < 0) = true := by simpa using h0
  go_enter Try.func16, Try.ntmps16
  go_wp2_with fail
  refine (BI.out _ (by (repeat (first | with_reducible (first | exact Below.refl _ _ | assumption | exact Hid.out (by assumption) | refine Below.alloc ?_ ?_ _ | refine Below.setCell ?_ ?_ _ | refine below_drewN ?_ _ | refine Below.drew ?_ | refine below_via (by assumption) ?_ ?_) | (first | (with_reducible assumption) | omega | (simp only [szW] <;> omega) | (simp <;> omega)))))).mono ?_
  rintro e w1 ⟨v, u, rfl, o1, o2, hb1⟩
  have hz_w1 := hb1.size
  try simp only [World.size_alloc, World.size_setCell] at hz_w1
  have all_c : w1.cell? ⟨w.heap.size, 0, none⟩ = some (.int .i64 l) ∧ w1.cell? ⟨w.heap.size, 1, none⟩ = some (.slice ma lm mc) ∧ w1.cell? ⟨w.heap.size, 2, none⟩ = some (.slice ica li icc) ∧ w1.cell? ⟨w.heap.size + 1, 0, none⟩ = some (.int .i64 bseg) ∧ w1.cell? ⟨w.heap.size + 1, 1, none⟩ = some (.slice bwa blw bwc) ∧ w1.cell? ⟨w.heap.size + 1, 2, none⟩ = some (.slice bka blk bkc) ∧ w1.cell? ⟨w.heap.size + 1, 3, none⟩ = some (.slice bva blv bvc) ∧ w1.cell? ⟨w.heap.size + 1, 4, none⟩ = some (.slice bca blc bcc) ∧ w1.cell? ⟨w.heap.size + 1, 5, none⟩ = some (.int .u64 blaid) ∧ w1.cell? ⟨w.heap.size + 1 + 1, 0, none⟩ = some (.int .i64 0) ∧ w1.cell? ⟨w.heap.size + 1 + 1, 1, none⟩ = some (.slice none 0 0) ∧ w1.cell? ⟨w.heap.size + 1 + 1, 2, none⟩ = some (.slice none 0 0) := by refine ⟨?_, ?_, ?_, ?_, ?_, ?_, ?_, ?_, ?_, ?_, ?_, ?_⟩ <;> (refine (hb1.cell ?_).trans ?_ <;> first | (first | (with_reducible assumption) | omega | (simp only [szW] <;> omega) | (simp <;> omega)) | (first | (with_reducible assumption) | ((try simp (disch := first | omega | (simp only [szW] <;> omega) | fail) only [ceW]) <;> first | (with_reducible assumption) | rfl)))
  have all_f : w1.frozen? ⟨w.heap.size + 1 + 1, 0, none⟩ = false ∧ w1.frozen? ⟨w.heap.size + 1 + 1, 1, none⟩ = false ∧ w1.frozen? ⟨w.heap.size + 1 + 1, 2, none⟩ = false := by refine ⟨?_, ?_, ?_⟩ <;> (refine (hb1.frozen ?_).trans ?_ <;> first | (first | (with_reducible assumption) | omega | (simp only [szW] <;> omega) | (simp <;> omega)) | (first | (with_reducible assumption) | ((try simp (disch := first | omega | (simp only [szW] <;> omega) | fail) only [ceW]) <;> first | (with_reducible assumption) | rfl)))
  have all_z : w.heap.size < w1.heap.size ∧ w.heap.size + 1 < w1.heap.size ∧ w.heap.size + 1 + 1 < w1.heap.size := by refine ⟨?_, ?_, ?_⟩ <;> (omega)
  obtain ⟨c_x0, c_x1, c_x2, c_b0, c_b1, c_b2, c_b3, c_b4, c_b5, c_r0, c_r1, c_r2⟩ := all_c
  try clear all_c
  obtain ⟨f_r0, f_r1, f_r2⟩ := all_f
  try clear all_f
  obtain ⟨z_x, z_b, z_r⟩ := all_z
  try clear all_z
  have hB1 : Below w.heap.size w w1 := by (repeat (first | with_reducible (first | exact Below.refl _ _ | assumption | exact Hid.out (by assumption) | refine Below.alloc ?_ ?_ _ | refine Below.setCell ?_ ?_ _ | refine below_drewN ?_ _ | refine Below.drew ?_ | refine below_via (by assumption) ?_ ?_) | (first | (with_reducible assumption) | omega | (simp only [szW] <;> omega) | (simp <;> omega))))
  have hz1 := hb1.size
  simp only [World.size_alloc] at hz1
  obtain ⟨va1, vc1, rfl, -⟩ := owns_news o1
  obtain ⟨ua1, uc1, rfl, -⟩ := owns_news o2
  clear o1 o2 hb1
  go_wp2_with fail
  refine (MY.out _ (by (repeat (first | with_reducible (first | exact Below.refl _ _ | assumption | exact Hid.out (by assumption) | refine Below.alloc ?_ ?_ _ | refine Below.setCell ?_ ?_ _ | refine below_drewN ?_ _ | refine Below.drew ?_ | refine below_via (by assumption) ?_ ?_) | (first | (with_reducible assumption) | omega | (simp only [szW] <;> omega) | (simp <;> omega)))))).mono ?_
  rintro e w2 ⟨rfl, hb2⟩
  have hz_w2 := hb2.size
  try simp only [World.size_alloc, World.size_setCell] at hz_w2
  have all_c : w2.cell? ⟨w.heap.size + 1 + 1, 0, none⟩ = some (.int .i64 0) ∧ w2.cell? ⟨w.heap.size + 1 + 1, 1, none⟩ = some (.slice none 0 0) ∧ w2.cell? ⟨w.heap.size + 1 + 1, 2, none⟩ = some (.slice none 0 0) ∧ w2.cell? ⟨w.heap.size + 1, 4, none⟩ = some (.slice bca blc bcc) ∧ w2.cell? ⟨w.heap.size, 0, none⟩ = some (.int .i64 l) := by refine ⟨?_, ?_, ?_, ?_, ?_⟩ <;> (refine (hb2.cell ?_).trans ?_ <;> first | (first | (with_reducible assumption) | omega | (simp only [szW] <;> omega) | (simp <;> omega)) | (first | (with_reducible assumption) | ((try simp (disch := first | omega | (simp only [szW] <;> omega) | fail) only [ceW]) <;> first | (with_reducible assumption) | rfl)))
  have all_f : w2.frozen? ⟨w.heap.size + 1 + 1, 0, none⟩ = false ∧ w2.frozen? ⟨w.heap.size + 1 + 1, 1, none⟩ = false ∧ w2.frozen? ⟨w.heap.size + 1 + 1, 2, none⟩ = false := by refine ⟨?_, ?_, ?_⟩ <;> (refine (hb2.frozen ?_).trans ?_ <;> first | (first | (with_reducible assumption) | omega | (simp only [szW] <;> omega) | (simp <;> omega)) | (first | (with_reducible assumption) | ((try simp (disch := first | omega | (simp only [szW] <;> omega) | fail) only [ceW]) <;> first | (with_reducible assumption) | rfl)))
  have all_z : w.heap.size + 1 + 1 < w2.heap.size ∧ w.heap.size + 1 < w2.heap.size ∧ w.heap.size < w2.heap.size := by refine ⟨?_, ?_, ?_⟩ <;> (omega)
  clear c_r0 c_r1 c_r2 f_r0 f_r1 f_r2 z_r
  obtain ⟨c_r0, c_r1, c_r2, c_c4, c_d0⟩ := all_c
  try clear all_c
  obtain ⟨f_r0, f_r1, f_r2⟩ := all_f
  try clear all_f
  obtain ⟨z_r, z_c, z_d⟩ := all_z
  try clear all_z
  have hB2 : Below w.heap.size w w2 := by (repeat (first | with_reducible (first | exact Below.refl _ _ | assumption | exact Hid.out (by assumption) | refine Below.alloc ?_ ?_ _ | refine Below.setCell ?_ ?_ _ | refine below_drewN ?_ _ | refine Below.drew ?_ | refine below_via (by assumption) ?_ ?_) | (first | (with_reducible assumption) | omega | (simp only [szW] <;> omega) | (simp <;> omega))))
  clear hb2
  have QF := Lib.hid (fun q => Calls.quiet_of_same ((FR.out (w2.drewN q)).mono fun _ _ h => ⟨h.1, h.2.symm⟩))
  go_upto_region 6 with (fail)
  go_quiet (exact QF.out _)
  have hq : Below w2.heap.size w2 (w2.drewN nq) := below_drewN (Below.refl _ w2) nq
  clear QF
  generalize w2.drewN nq = w3 at *
  have hz_w3 := hq.size
  try simp only [World.size_alloc, World.size_setCell] at hz_w3
  have all_c : w3.cell? ⟨w.heap.size + 1 + 1, 0, none⟩ = some (.int .i64 0) ∧ w3.cell? ⟨w.heap.size + 1 + 1, 1, none⟩ = some (.slice none 0 0) ∧ w3.cell? ⟨w.heap.size + 1 + 1, 2, none⟩ = some (.slice none 0 0) ∧ w3.cell? ⟨w.heap.size + 1, 4, none⟩ = some (.slice bca blc bcc) ∧ w3.cell? ⟨w.heap.size, 0, none⟩ = some (.int .i64 l) := by refine ⟨?_, ?_, ?_, ?_, ?_⟩ <;> (refine (hq.cell ?_).trans ?_ <;> first | (first | (with_reducible assumption) | omega | (simp only [szW] <;> omega) | (simp <;> omega)) | (first | (with_reducible assumption) | ((try simp (disch := first | omega | (simp only [szW] <;> omega) | fail) only [ceW]) <;> first | (with_reducible assumption) | rfl)))
  have all_f : w3.frozen? ⟨w.heap.size + 1 + 1, 0, none⟩ = false ∧ w3.frozen? ⟨w.heap.size + 1 + 1, 1, none⟩ = false ∧ w3.frozen? ⟨w.heap.size + 1 + 1, 2, none⟩ = false := by refine ⟨?_, ?_, ?_⟩ <;> (refine (hq.frozen ?_).trans ?_ <;> first | (first | (with_reducible assumption) | omega | (simp only [szW] <;> omega) | (simp <;> omega)) | (first | (with_reducible assumption) | ((try simp (disch := first | omega | (simp only [szW] <;> omega) | fail) only [ceW]) <;> first | (with_reducible assumption) | rfl)))
  have all_z : w.heap.size + 1 + 1 < w3.heap.size ∧ w.heap.size + 1 < w3.heap.size ∧ w.heap.size < w3.heap.size := by refine ⟨?_, ?_, ?_⟩ <;> (omega)
  clear c_r0 c_r1 c_r2 c_c4 c_d0 f_r0 f_r1 f_r2 z_r z_c z_d
  obtain ⟨c_r0, c_r1, c_r2, c_c4, c_d0⟩ := all_c
  try clear all_c
  obtain ⟨f_r0, f_r1, f_r2⟩ := all_f
  try clear all_f
  obtain ⟨z_r, z_c, z_d⟩ := all_z
  try clear all_z
  have hB3 : Below w.heap.size w w3 := below_via hq hB2 hB2.size
  go_wp2
  have hsw := three_set (w2 := w3) (b := w.heap.size + 1 + 1) (x := .int .i64 0) (y := .slice none 0 0) (z := .slice none 0 0) c_r0 c_r1 c_r2
  exact bodyPost_ret (results_ct rfl rfl (run_loadVar_many _ Try.underlying25 rfl (by kernel_rfl) (three_at hsw.1 hsw.2.1 hsw.2.2))) rfl ⟨_, _, rfl, World.ownsRow_nil _ _ _ _, World.ownsRow_nil _ _ _ _, ((hB3.setCell (by dsimp only; omega) _).setCell (by dsimp only; omega) _).setCell (by dsimp only; omega) _⟩

set_option maxRecDepth 100000 in
set_option maxHeartbeats 1000000 in
theorem Win20_ord (l : Int) (ma ica : Option Addr) (mc icc lm li : Nat) (bseg : Int) (bwa bka bva bca : Option Addr) (bwc bkc bvc bcc blw blk blv blc : Nat) (blaid : Int) (lo hi : Int) (w : World) (bL : Int) (bm bc : List Int) (F : Nat) (hF : blc = F) (h0 : 0 ≤ lo) (h1 : hi < lo) (BI : Hid (∀ W, Below w.heap.size w W → Calls Try.prog 43 #[.agg #[.int .i64 bseg, .slice bwa blw bwc, .slice bka blk bkc, .slice bva blv bvc, .slice bca blc bcc, .int .u64 blaid]] W (FreshIx2 W bL bm bc (.int .i64 0)))) (MY : Hid (∀ W, Below w.heap.size w W → Calls Try.prog 44 #[.agg #[.int .i64 l, .slice ma lm mc, .slice ica li icc]] W (AnsB W (.bool true)))) (FR : Hid (∀ W, Calls Try.prog 45 #[.int .i64 l] W fun e w' => e = .returned (.int .i64 F) ∧ W = w')) :
    Calls Try.prog 16 #[.agg #[.int .i64 l, .slice ma lm mc, .slice ica li icc], .agg #[.int .i64 bseg, .slice bwa blw bwc, .slice bka blk bkc, .slice bva blv bvc, .slice bca blc bcc, .int .u64 blaid], .int .i64 lo, .int .i64 hi] w (FreshIx2 w 0 [] [] (.int .i64 2)) := by
  subst hF
  have e1 : ((blc : Int) != (blc : Int)) = false := by simp
  have e2 : decide (lo < 0) = false := by simp; omega
  have e3 : decide (lo > hi) = true := by simp; omega
  go_enter Try.func16, Try.ntmps16
  go_wp2_with fail
  refine (BI.out _ (by (repeat (first | with_reducible (first | exact Below.refl _ _ | assumption | exact Hid.out (by assumption) | refine Below.alloc ?_ ?_ _ | refine Below.setCell ?_ ?_ _ | refine below_drewN ?_ _ | refine Below.drew ?_ | refine below_via (by assumption) ?_ ?_) | (first | (with_reducible assumption) | omega | (simp only [szW] <;> omega) | (simp <;> omega)))))).mono ?_
  rintro e w1 ⟨v, u, rfl, o1, o2, hb1⟩
  have hz_w1 := hb1.size
  try simp only [World.size_alloc, World.size_setCell] at hz_w1
  have all_c : w1.cell? ⟨w.heap.size, 0, none⟩ = some (.int .i64 l) ∧ w1.cell? ⟨w.heap.size, 1, none⟩ = some (.slice ma lm mc) ∧ w1.cell? ⟨w.heap.size, 2, none⟩ = some (.slice ica li icc) ∧ w1.cell? ⟨w.heap.size + 1, 0, none⟩ = some (.int .i64 bseg) ∧ w1.cell? ⟨w.heap.size + 1, 1, none⟩ = some (.slice bwa blw bwc) ∧ w1.cell? ⟨w.heap.size + 1, 2, none⟩ = some (.slice bka blk bkc) ∧ w1.cell? ⟨w.heap.size + 1, 3, none⟩ = some (.slice bva blv bvc) ∧ w1.cell? ⟨w.heap.size + 1, 4, none⟩ = some (.slice bca blc bcc) ∧ w1.cell? ⟨w.heap.size + 1, 5, none⟩ = some (.int .u64 blaid) ∧ w1.cell? ⟨w.heap.size + 1 + 1, 0, none⟩ = some (.int .i64 0) ∧ w1.cell? ⟨w.heap.size + 1 + 1, 1, none⟩ = some (.slice none 0 0) ∧ w1.cell? ⟨w.heap.size + 1 + 1, 2, none⟩ = some (.slice none 0 0) := by refine ⟨?_, ?_, ?_, ?_, ?_, ?_, ?_, ?_, ?_, ?_, ?_, ?_⟩ <;> (refine (hb1.cell ?_).trans ?_ <;> first | (first | (with_reducible assumption) | omega | (simp only [szW] <;> omega) | (simp <;> omega)) | (first | (with_reducible assumption) | ((try simp (disch := first | omega | (simp only [szW] <;> omega) | fail) only [ceW]) <;> first | (with_reducible assumption) | rfl)))
  have all_f : w1.frozen? ⟨w.heap.size + 1 + 1, 0, none⟩ = false ∧ w1.frozen? ⟨w.heap.size + 1 + 1, 1, none⟩ = false ∧ w1.frozen? ⟨w.heap.size + 1 + 1, 2, none⟩ = false := by refine ⟨?_, ?_, ?_⟩ <;> (refine (hb1.frozen ?_).trans ?_ <;> first | (first | (with_reducible assumption) | omega | (simp only [szW] <;> omega) | (simp <;> omega)) | (first | (with_reducible assumption) | ((try simp (disch := first | omega | (simp only [szW] <;> omega) | fail) only [ceW]) <;> first | (with_reducible assumption) | rfl)))
  have all_z : w.heap.size < w1.heap.size ∧ w.heap.size + 1 < w1.heap.size ∧ w.heap.size + 1 + 1 < w1.heap.size := by refine ⟨?_, ?_, ?_⟩ <;> (omega)
  obtain ⟨c_x0, c_x1, c_x2, c_b0, c_b1, c_b2, c_b3, c_b4, c_b5, c_r0, c_r1, c_r2⟩ := all_c
  try clear all_c
  obtain ⟨f_r0, f_r1, f_r2⟩ := all_f
  try clear all_f
  obtain ⟨z_x, z_b, z_r⟩ := all_z
  try clear all_z
  have hB1 : Below w.heap.size w w1 := by (repeat (first | with_reducible (first | exact Below.refl _ _ | assumption | exact Hid.out (by assumption) | refine Below.alloc ?_ ?_ _ | refine Below.setCell ?_ ?_ _ | refine below_drewN ?_ _ | refine Below.drew ?_ | refine below_via (by assumption) ?_ ?_) | (first | (with_reducible assumption) | omega | (simp only [szW] <;> omega) | (simp <;> omega))))
  have hz1 := hb1.size
  simp only [World.size_alloc] at hz1
  obtain ⟨va1, vc1, rfl, -⟩ := owns_news o1
  obtain ⟨ua1, uc1, rfl, -⟩ := owns_news o2
  clear o1 o2 hb1
  go_wp2_with fail
  refine (MY.out _ (by (repeat (first | with_reducible (first | exact Below.refl _ _ | assumption | exact Hid.out (by assumption) | refine Below.alloc ?_ ?_ _ | refine Below.setCell ?_ ?_ _ | refine below_drewN ?_ _ | refine Below.drew ?_ | refine below_via (by assumption) ?_ ?_) | (first | (with_reducible assumption) | omega | (simp only [szW] <;> omega) | (simp <;> omega)))))).mono ?_
  rintro e w2 ⟨rfl, hb2⟩
  have hz_w2 := hb2.size
  try simp only [World.size_alloc, World.size_setCell] at hz_w2
  have all_c : w2.cell? ⟨w.heap.size + 1 + 1, 0, none⟩ = some (.int .i64 0) ∧ w2.cell? ⟨w.heap.size + 1 + 1, 1, none⟩ = some (.slice none 0 0) ∧ w2.cell? ⟨w.heap.size + 1 + 1, 2, none⟩ = some (.slice none 0 0) ∧ w2.cell? ⟨w.heap.size + 1, 4, none⟩ = some (.slice bca blc bcc) ∧ w2.cell? ⟨w.heap.size, 0, none⟩ = some (.int .i64 l) := by refine ⟨?_, ?_, ?_, ?_, ?_⟩ <;> (refine (hb2.cell ?_).trans ?_ <;> first | (first | (with_reducible assumption) | omega | (simp only [szW] <;> omega) | (simp <;> omega)) | (first | (with_reducible assumption) | ((try simp (disch := first | omega | (simp only [szW] <;> omega) | fail) only [ceW]) <;> first | (with_reducible assumption) | rfl)))
  have all_f : w2.frozen? ⟨w.heap.size + 1 + 1, 0, none⟩ = false ∧ w2.frozen? ⟨w.heap.size + 1 + 1, 1, none⟩ = false ∧ w2.frozen? ⟨w.heap.size + 1 + 1, 2, none⟩ = false := by refine ⟨?_, ?_, ?_⟩ <;> (refine (hb2.frozen ?_).trans ?_ <;> first | (first | (with_reducible assumption) | omega | (simp only [szW] <;> omega) | (simp <;> omega)) | (first | (with_reducible assumption) | ((try simp (disch := first | omega | (simp only [szW] <;> omega) | fail) only [ceW]) <;> first | (with_reducible assumption) | rfl)))
  have all_z : w.heap.size + 1 + 1 < w2.heap.size ∧ w.heap.size + 1 < w2.heap.size ∧ w.heap.size < w2.heap.size := by refine ⟨?_, ?_, ?_⟩ <;> (omega)
  clear c_r0 c_r1 c_r2 f_r0 f_r1 f_r2 z_r
  obtain ⟨c_r0, c_r1, c_r2, c_c4, c_d0⟩ := all_c
  try clear all_c
  obtain ⟨f_r0, f_r1, f_r2⟩ := all_f
  try clear all_f
  obtain ⟨z_r, z_c, z_d⟩ := all_z
  try clear all_z
  have hB2 : Below w.heap.size w w2 := by (repeat (first | with_reducible (first | exact Below.refl _ _ | assumption | exact Hid.out (by assumption) | refine Below.alloc ?_ ?_ _ | refine Below.setCell ?_ ?_ _ | refine below_drewN ?_ _ | refine Below.drew ?_ | refine below_via (by assumption) ?_ ?_) | (first | (with_reducible assumption) | omega | (simp only [szW] <;> omega) | (simp <;> omega))))
  clear hb2
  have QF := Lib.hid (fun q => Calls.quiet_of_same ((FR.out (w2.drewN q)).mono fun _ _ h => ⟨h.1, h.2.symm⟩))
  go_upto_region 6 with (fail)
  go_quiet (exact QF.out _)
  have hq : Below w2.heap.size w2 (w2.drewN nq) := below_drewN (Below.refl _ w2) nq
  clear QF
  generalize w2.drewN nq = w3 at *
  have hz_w3 := hq.size
  try simp only [World.size_alloc, World.size_setCell] at hz_w3
  have all_c : w3.cell? ⟨w.heap.size + 1 + 1, 0, none⟩ = some (.int .i64 0) ∧ w3.cell? ⟨w.heap.size + 1 + 1, 1, none⟩ = some (.slice none 0 0) ∧ w3.cell? ⟨w.heap.size + 1 + 1, 2, none⟩ = some (.slice none 0 0) ∧ w3.cell? ⟨w.heap.size + 1, 4, none⟩ = some (.slice bca blc bcc) ∧ w3.cell? ⟨w.heap.size, 0, none⟩ = some (.int .i64 l) := by refine ⟨?_, ?_, ?_, ?_, ?_⟩ <;> (refine (hq.cell ?_).trans ?_ <;> first | (first | (with_reducible assumption) | omega | (simp only [szW] <;> omega) | (simp <;> omega)) | (first | (with_reducible assumption) | ((try simp (disch := first | omega | (simp only [szW] <;> omega) | fail) only [ceW]) <;> first | (with_reducible assumption) | rfl)))
  have all_f : w3.frozen? ⟨w.heap.size + 1 + 1, 0, none⟩ = false ∧ w3.frozen? ⟨w.heap.size + 1 + 1, 1, none⟩ = false ∧ w3.frozen? ⟨w.heap.size + 1 + 1, 2, none⟩ = false := by refine ⟨?_, ?_, ?_⟩ <;> (refine (hq.frozen ?_).trans ?_ <;> first | (first | (with_reducible assumption) | omega | (simp only [szW] <;> omega) | (simp <;> omega)) | (first | (with_reducible assumption) | ((try simp (disch := first | omega | (simp only [szW] <;> omega) | fail) only [ceW]) <;> first | (with_reducible assumption) | rfl)))
  have all_z : w.heap.size + 1 + 1 < w3.heap.size ∧ w.heap.size + 1 < w3.heap.size ∧ w.heap.size < w3.heap.size := by refine ⟨?_, ?_, ?_⟩ <;> (omega)
  clear c_r0 c_r1 c_r2 c_c4 c_d0 f_r0 f_r1 f_r2 z_r z_c z_d
  obtain ⟨c_r0, c_r1, c_r2, c_c4, c_d0⟩ := all_c
  try clear all_c
  obtain ⟨f_r0, f_r1, f_r2⟩ := all_f
  try clear all_f
  obtain ⟨z_r, z_c, z_d⟩ := all_z
  try clear all_z
  have hB3 : Below w.heap.size w w3 := below_via hq hB2 hB2.size
  go_wp2
  have hsw := three_set (w2 := w3) (b := w.heap.size + 1 + 1) (x := .int .i64 0) (y := .slice none 0 0) (z := .slice none 0 0) c_r0 c_r1 c_r2
  exact bodyPost_ret (results_ct rfl rfl (run_loadVar_many _ Try.underlying25 rfl (by kernel_rfl) (three_at hsw.1 hsw.2.1 hsw.2.2))) rfl ⟨_, _, rfl, World.ownsRow_nil _ _ _ _, World.ownsRow_nil _ _ _ _, ((hB3.setCell (by dsimp only; omega) _).setCell (by dsimp only; omega) _).setCell (by dsimp only; omega) _⟩

set_option maxRecDepth 100000 in
set_option maxHeartbeats 1000000 in
theorem Win20_far (l : Int) (ma ica : Option Addr) (mc icc lm li : Nat) (bseg : Int) (bwa bka bva bca : Option Addr) (bwc bkc bvc bcc blw blk blv blc : Nat) (blaid : Int) (lo hi : Int) (w : World) (bL : Int) (bm bc : List Int) (F : Nat) (hF : blc = F) (h0 : 0 ≤ lo) (h1 : lo ≤ hi) (h2 : (blc : Int) < hi) (BI : Hid (∀ W, Below w.heap.size w W → Calls Try.prog 43 #[.agg #[.int .i64 bseg, .slice bwa blw bwc, .slice bka blk bkc, .slice bva blv bvc, .slice bca blc bcc, .int .u64 blaid]] W (FreshIx2 W bL bm bc (.int .i64 0)))) (MY : Hid (∀ W, Below w.heap.size w W → Calls Try.prog 44 #[.agg #[.int .i64 l, .slice ma lm mc, .slice ica li icc]] W (AnsB W (.bool true)))) (FR : Hid (∀ W, Calls Try.prog 45 #[.int .i64 l] W fun e w' => e = .returned (.int .i64 F) ∧ W = w')) :
    Calls Try.prog 16 #[.agg #[.int .i64 l, .slice ma lm mc, .slice ica li icc], .agg #[.int .i64 bseg, .slice bwa blw bwc, .slice bka blk bkc, .slice bva blv bvc, .slice bca blc bcc, .int .u64 blaid], .int .i64 lo, .int .i64 hi] w (FreshIx2 w 0 [] [] (.int .i64 2)) := by
  subst hF
  have e1 : ((blc : Int) != (blc : Int)) = false := by simp
  have e2 : decide (lo < 0) = false := by simp; omega
  have e3 : decide (lo > hi) = false := by simp; omega
  have e4 : decide (hi > (blc : Int)) = true := by simp; omega
  go_enter Try.func16, Try.ntmps16
  go_wp2_with fail
  refine (BI.out _ (by (repeat (first | with_reducible (first | exact Below.refl _ _ | assumption | exact Hid.out (by assumption) | refine Below.alloc ?_ ?_ _ | refine Below.setCell ?_ ?_ _ | refine below_drewN ?_ _ | refine Below.drew ?_ | refine below_via (by assumption) ?_ ?_) | (first | (with_reducible assumption) | omega | (simp only [szW] <;> omega) | (simp <;> omega)))))).mono ?_
  rintro e w1 ⟨v, u, rfl, o1, o2, hb1⟩
  have hz_w1 := hb1.size
  try simp only [World.size_alloc, World.size_setCell] at hz_w1
  have all_c : w1.cell? ⟨w.heap.size, 0, none⟩ = some (.int .i64 l) ∧ w1.cell? ⟨w.heap.size, 1, none⟩ = some (.slice ma lm mc) ∧ w1.cell? ⟨w.heap.size, 2, none⟩ = some (.slice ica li icc) ∧ w1.cell? ⟨w.heap.size + 1, 0, none⟩ = some (.int .i64 bseg) ∧ w1.cell? ⟨w.heap.size + 1, 1, none⟩ = some (.slice bwa blw bwc) ∧ w1.cell? ⟨w.heap.size + 1, 2, none⟩ = some (.slice bka blk bkc) ∧ w1.cell? ⟨w.heap.size + 1, 3, none⟩ = some (.slice bva blv bvc) ∧ w1.cell? ⟨w.heap.size + 1, 4, none⟩ = some (.slice bca blc bcc) ∧ w1.cell? ⟨w.heap.size + 1, 5, none⟩ = some (.int .u64 blaid) ∧ w1.cell? ⟨w.heap.size + 1 + 1, 0, none⟩ = some (.int .i64 0) ∧ w1.cell? ⟨w.heap.size + 1 + 1, 1, none⟩ = some (.slice none 0 0) ∧ w1.cell? ⟨w.heap.size + 1 + 1, 2, none⟩ = some (.slice none 0 0) := by refine ⟨?_, ?_, ?_, ?_, ?_, ?_, ?_, ?_, ?_, ?_, ?_, ?_⟩ <;> (refine (hb1.cell ?_).trans ?_ <;> first | (first | (with_reducible assumption) | omega | (simp only [szW] <;> omega) | (simp <;> omega)) | (first | (with_reducible assumption) | ((try simp (disch := first | omega | (simp only [szW] <;> omega) | fail) only [ceW]) <;> first | (with_reducible assumption) | rfl)))
  have all_f : w1.frozen? ⟨w.heap.size + 1 + 1, 0, none⟩ = false ∧ w1.frozen? ⟨w.heap.size + 1 + 1, 1, none⟩ = false ∧ w1.frozen? ⟨w.heap.size + 1 + 1, 2, none⟩ = false := by refine ⟨?_, ?_, ?_⟩ <;> (refine (hb1.frozen ?_).trans ?_ <;> first | (first | (with_reducible assumption) | omega | (simp only [szW] <;> omega) | (simp <;> omega)) | (first | (with_reducible assumption) | ((try simp (disch := first | omega | (simp only [szW] <;> omega) | fail) only [ceW]) <;> first | (with_reducible assumption) | rfl)))
  have all_z : w.heap.size < w1.heap.size ∧ w.heap.size + 1 < w1.heap.size ∧ w.heap.size + 1 + 1 < w1.heap.size := by refine ⟨?_, ?_, ?_⟩ <;> (omega)
  obtain ⟨c_x0, c_x1, c_x2, c_b0, c_b1, c_b2, c_b3, c_b4, c_b5, c_r0, c_r1, c_r2⟩ := all_c
  try clear all_c
  obtain ⟨f_r0, f_r1, f_r2⟩ := all_f
  try clear all_f
  obtain ⟨z_x, z_b, z_r⟩ := all_z
  try clear all_z
  have hB1 : Below w.heap.size w w1 := by (repeat (first | with_reducible (first | exact Below.refl _ _ | assumption | exact Hid.out (by assumption) | refine Below.alloc ?_ ?_ _ | refine Below.setCell ?_ ?_ _ | refine below_drewN ?_ _ | refine Below.drew ?_ | refine below_via (by assumption) ?_ ?_) | (first | (with_reducible assumption) | omega | (simp only [szW] <;> omega) | (simp <;> omega))))
  have hz1 := hb1.size
  simp only [World.size_alloc] at hz1
  obtain ⟨va1, vc1, rfl, -⟩ := owns_news o1
  obtain ⟨ua1, uc1, rfl, -⟩ := owns_news o2
  clear o1 o2 hb1
  go_wp2_with fail
  refine (MY.out _ (by (repeat (first | with_reducible (first | exact Below.refl _ _ | assumption | exact Hid.out (by assumption) | refine Below.alloc ?_ ?_ _ | refine Below.setCell ?_ ?_ _ | refine below_drewN ?_ _ | refine Below.drew ?_ | refine below_via (by assumption) ?_ ?_) | (first | (with_reducible assumption) | omega | (simp only [szW] <;> omega) | (simp <;> omega)))))).mono ?_
  rintro e w2 ⟨rfl, hb2⟩
  have hz_w2 := hb2.size
  try simp only [World.size_alloc, World.size_setCell] at hz_w2
  have all_c : w2.cell? ⟨w.heap.size + 1 + 1, 0, none⟩ = some (.int .i64 0) ∧ w2.cell? ⟨w.heap.size + 1 + 1, 1, none⟩ = some (.slice none 0 0) ∧ w2.cell? ⟨w.heap.size + 1 + 1, 2, none⟩ = some (.slice none 0 0) ∧ w2.cell? ⟨w.heap.size + 1, 4, none⟩ = some (.slice bca blc bcc) ∧ w2.cell? ⟨w.heap.size, 0, none⟩ = some (.int .i64 l) := by refine ⟨?_, ?_, ?_, ?_, ?_⟩ <;> (refine (hb2.cell ?_).trans ?_ <;> first | (first | (with_reducible assumption) | omega | (simp only [szW] <;> omega) | (simp <;> omega)) | (first | (with_reducible assumption) | ((try simp (disch := first | omega | (simp only [szW] <;> omega) | fail) only [ceW]) <;> first | (with_reducible assumption) | rfl)))
  have all_f : w2.frozen? ⟨w.heap.size + 1 + 1, 0, none⟩ = false ∧ w2.frozen? ⟨w.heap.size + 1 + 1, 1, none⟩ = false ∧ w2.frozen? ⟨w.heap.size + 1 + 1, 2, none⟩ = false := by refine ⟨?_, ?_, ?_⟩ <;> (refine (hb2.frozen ?_).trans ?_ <;> first | (first | (with_reducible assumption) | omega | (simp only [szW] <;> omega) | (simp <;> omega)) | (first | (with_reducible assumption) | ((try simp (disch := first | omega | (simp only [szW] <;> omega) | fail) only [ceW]) <;> first | (with_reducible assumption) | rfl)))
  have all_z : w.heap.size + 1 + 1 < w2.heap.size ∧ w.heap.size + 1 < w2.heap.size ∧ w.heap.size < w2.heap.size := by refine ⟨?_, ?_, ?_⟩ <;> (omega)
  clear c_r0 c_r1 c_r2 f_r0 f_r1 f_r2 z_r
  obtain ⟨c_r0, c_r1, c_r2, c_c4, c_d0⟩ := all_c
  try clear all_c
  obtain ⟨f_r0, f_r1, f_r2⟩ := all_f
  try clear all_f
  obtain ⟨z_r, z_c, z_d⟩ := all_z
  try clear all_z
  have hB2 : Below w.heap.size w w2 := by (repeat (first | with_reducible (first | exact Below.refl _ _ | assumption | exact Hid.out (by assumption) | refine Below.alloc ?_ ?_ _ | refine Below.setCell ?_ ?_ _ | refine below_drewN ?_ _ | refine Below.drew ?_ | refine below_via (by assumption) ?_ ?_) | (first | (with_reducible assumption) | omega | (simp only [szW] <;> omega) | (simp <;> omega))))
  clear hb2
  have QF := Lib.hid (fun q => Calls.quiet_of_same ((FR.out (w2.drewN q)).mono fun _ _ h => ⟨h.1, h.2.symm⟩))
  go_upto_region 6 with (fail)
  go_quiet (exact QF.out _)
  have hq : Below w2.heap.size w2 (w2.drewN nq) := below_drewN (Below.refl _ w2) nq
  clear QF
  generalize w2.drewN nq = w3 at *
  have hz_w3 := hq.size
  try simp only [World.size_alloc, World.size_setCell] at hz_w3
  have all_c : w3.cell? ⟨w.heap.size + 1 + 1, 0, none⟩ = some (.int .i64 0) ∧ w3.cell? ⟨w.heap.size + 1 + 1, 1, none⟩ = some (.slice none 0 0) ∧ w3.cell? ⟨w.heap.size + 1 + 1, 2, none⟩ = some (.slice none 0 0) ∧ w3.cell? ⟨w.heap.size + 1, 4, none⟩ = some (.slice bca blc bcc) ∧ w3.cell? ⟨w.heap.size, 0, none⟩ = some (.int .i64 l) := by refine ⟨?_, ?_, ?_, ?_, ?_⟩ <;> (refine (hq.cell ?_).trans ?_ <;> first | (first | (with_reducible assumption) | omega | (simp only [szW] <;> omega) | (simp <;> omega)) | (first | (with_reducible assumption) | ((try simp (disch := first | omega | (simp only [szW] <;> omega) | fail) only [ceW]) <;> first | (with_reducible assumption) | rfl)))
  have all_f : w3.frozen? ⟨w.heap.size + 1 + 1, 0, none⟩ = false ∧ w3.frozen? ⟨w.heap.size + 1 + 1, 1, none⟩ = false ∧ w3.frozen? ⟨w.heap.size + 1 + 1, 2, none⟩ = false := by refine ⟨?_, ?_, ?_⟩ <;> (refine (hq.frozen ?_).trans ?_ <;> first | (first | (with_reducible assumption) | omega | (simp only [szW] <;> omega) | (simp <;> omega)) | (first | (with_reducible assumption) | ((try simp (disch := first | omega | (simp only [szW] <;> omega) | fail) only [ceW]) <;> first | (with_reducible assumption) | rfl)))
  have all_z : w.heap.size + 1 + 1 < w3.heap.size ∧ w.heap.size + 1 < w3.heap.size ∧ w.heap.size < w3.heap.size := by refine ⟨?_, ?_, ?_⟩ <;> (omega)
  clear c_r0 c_r1 c_r2 c_c4 c_d0 f_r0 f_r1 f_r2 z_r z_c z_d
  obtain ⟨c_r0, c_r1, c_r2, c_c4, c_d0⟩ := all_c
  try clear all_c
  obtain ⟨f_r0, f_r1, f_r2⟩ := all_f
  try clear all_f
  obtain ⟨z_r, z_c, z_d⟩ := all_z
  try clear all_z
  have hB3 : Below w.heap.size w w3 := below_via hq hB2 hB2.size
  go_wp2
  have hsw := three_set (w2 := w3) (b := w.heap.size + 1 + 1) (x := .int .i64 0) (y := .slice none 0 0) (z := .slice none 0 0) c_r0 c_r1 c_r2
  exact bodyPost_ret (results_ct rfl rfl (run_loadVar_many _ Try.underlying25 rfl (by kernel_rfl) (three_at hsw.1 hsw.2.1 hsw.2.2))) rfl ⟨_, _, rfl, World.ownsRow_nil _ _ _ _, World.ownsRow_nil _ _ _ _, ((hB3.setCell (by dsimp only; omega) _).setCell (by dsimp only; omega) _).setCell (by dsimp only; omega) _⟩

set_option maxRecDepth 100000 in
set_option maxHeartbeats 1000000 in
theorem Win20_yes (l : Int) (ma ica : Option Addr) (mc icc lm li : Nat) (bseg : Int) (bwa bka bva bca : Option Addr) (bwc bkc bvc bcc blw blk blv blc : Nat) (blaid : Int) (lo hi : Int) (w : World) (bL : Int) (bm bc T1 T2 : List Int) (F : Nat) (hF : blc = F) (h0 : 0 ≤ lo) (h1 : lo ≤ hi) (h2 : hi ≤ (blc : Int)) (BI : Hid (∀ W, Below w.heap.size w W → Calls Try.prog 43 #[.agg #[.int .i64 bseg, .slice bwa blw bwc, .slice bka blk bkc, .slice bva blv bvc, .slice bca blc bcc, .int .u64 blaid]] W (FreshIx2 W bL bm bc (.int .i64 0)))) (MY : Hid (∀ W, Below w.heap.size w W → Calls Try.prog 44 #[.agg #[.int .i64 l, .slice ma lm mc, .slice ica li icc]] W (AnsB W (.bool true)))) (FR : Hid (∀ W, Calls Try.prog 45 #[.int .i64 l] W fun e w' => e = .returned (.int .i64 F) ∧ W = w'))
    (TD : Hid (∀ W, Below w.heap.size w W → Calls Try.prog 46 #[.agg #[.int .i64 l, .slice ma lm mc, .slice ica li icc], .agg #[.int .i64 bseg, .slice bwa blw bwc, .slice bka blk bkc, .slice bva blv bvc, .slice bca blc bcc, .int .u64 blaid], .int .i64 lo, .int .i64 hi] W (FreshIx W l T1 T2))) :
    Calls Try.prog 16 #[.agg #[.int .i64 l, .slice ma lm mc, .slice ica li icc], .agg #[.int .i64 bseg, .slice bwa blw bwc, .slice bka blk bkc, .slice bva blv bvc, .slice bca blc bcc, .int .u64 blaid], .int .i64 lo, .int .i64 hi] w (FreshIx2 w l T1 T2 (.int .i64 0)) := by
  subst hF
  have e1 : ((blc : Int) != (blc : Int)) = false := by simp
  have e2 : decide (lo < 0) = false := by simp; omega
  have e3 : decide (lo > hi) = false := by simp; omega
  have e4 : decide (hi > (blc : Int)) = false := by simp; omega
  go_enter Try.func16, Try.ntmps16
  go_wp2_with fail
  refine (BI.out _ (by (repeat (first | with_reducible (first | exact Below.refl _ _ | assumption | exact Hid.out (by assumption) | refine Below.alloc ?_ ?_ _ | refine Below.setCell ?_ ?_ _ | refine below_drewN ?_ _ | refine Below.drew ?_ | refine below_via (by assumption) ?_ ?_) | (first | (with_reducible assumption) | omega | (simp only [szW] <;> omega) | (simp <;> omega)))))).mono ?_
  rintro e w1 ⟨v, u, rfl, o1, o2, hb1⟩
  have hz_w1 := hb1.size
  try simp only [World.size_alloc, World.size_setCell] at hz_w1
  have all_c : w1.cell? ⟨w.heap.size, 0, none⟩ = some (.int .i64 l) ∧ w1.cell? ⟨w.heap.size, 1, none⟩ = some (.slice ma lm mc) ∧ w1.cell? ⟨w.heap.size, 2, none⟩ = some (.slice ica li icc) ∧ w1.cell? ⟨w.heap.size + 1, 0, none⟩ = some (.int .i64 bseg) ∧ w1.cell? ⟨w.heap.size + 1, 1, none⟩ = some (.slice bwa blw bwc) ∧ w1.cell? ⟨w.heap.size + 1, 2, none⟩ = some (.slice bka blk bkc) ∧ w1.cell? ⟨w.heap.size + 1, 3, none⟩ = some (.slice bva blv bvc) ∧ w1.cell? ⟨w.heap.size + 1, 4, none⟩ = some (.slice bca blc bcc) ∧ w1.cell? ⟨w.heap.size + 1, 5, none⟩ = some (.int .u64 blaid) ∧ w1.cell? ⟨w.heap.size + 1 + 1, 0, none⟩ = some (.int .i64 0) ∧ w1.cell? ⟨w.heap.size + 1 + 1, 1, none⟩ = some (.slice none 0 0) ∧ w1.cell? ⟨w.heap.size + 1 + 1, 2, none⟩ = some (.slice none 0 0) := by refine ⟨?_, ?_, ?_, ?_, ?_, ?_, ?_, ?_, ?_, ?_, ?_, ?_⟩ <;> (refine (hb1.cell ?_).trans ?_ <;> first | (first | (with_reducible assumption) | omega | (simp only [szW] <;> omega) | (simp <;> omega)) | (first | (with_reducible assumption) | ((try simp (disch := first | omega | (simp only [szW] <;> omega) | fail) only [ceW]) <;> first | (with_reducible assumption) | rfl)))
  have all_f : w1.frozen? ⟨w.heap.size + 1 + 1, 0, none⟩ = false ∧ w1.frozen? ⟨w.heap.size + 1 + 1, 1, none⟩ = false ∧ w1.frozen? ⟨w.heap.size + 1 + 1, 2, none⟩ = false := by refine ⟨?_, ?_, ?_⟩ <;> (refine (hb1.frozen ?_).trans ?_ <;> first | (first | (with_reducible assumption) | omega | (simp only [szW] <;> omega) | (simp <;> omega)) | (first | (with_reducible assumption) | ((try simp (disch := first | omega | (simp only [szW] <;> omega) | fail) only [ceW]) <;> first | (with_reducible assumption) | rfl)))
  have all_z : w.heap.size < w1.heap.size ∧ w.heap.size + 1 < w1.heap.size ∧ w.heap.size + 1 + 1 < w1.heap.size := by refine ⟨?_, ?_, ?_⟩ <;> (omega)
  obtain ⟨c_x0, c_x1, c_x2, c_b0, c_b1, c_b2, c_b3, c_b4, c_b5, c_r0, c_r1, c_r2⟩ := all_c
  try clear all_c
  obtain ⟨f_r0, f_r1, f_r2⟩ := all_f
  try clear all_f
  obtain ⟨z_x, z_b, z_r⟩ := all_z
  try clear all_z
  have hB1 : Below w.heap.size w w1 := by (repeat (first | with_reducible (first | exact Below.refl _ _ | assumption | exact Hid.out (by assumption) | refine Below.alloc ?_ ?_ _ | refine Below.setCell ?_ ?_ _ | refine below_drewN ?_ _ | refine Below.drew ?_ | refine below_via (by assumption) ?_ ?_) | (first | (with_reducible assumption) | omega | (simp only [szW] <;> omega) | (simp <;> omega))))
  have hz1 := hb1.size
  simp only [World.size_alloc] at hz1
  obtain ⟨va1, vc1, rfl, -⟩ := owns_news o1
  obtain ⟨ua1, uc1, rfl, -⟩ := owns_news o2
  clear o1 o2 hb1
  go_wp2_with fail
  refine (MY.out _ (by (repeat (first | with_reducible (first | exact Below.refl _ _ | assumption | exact Hid.out (by assumption) | refine Below.alloc ?_ ?_ _ | refine Below.setCell ?_ ?_ _ | refine below_drewN ?_ _ | refine Below.drew ?_ | refine below_via (by assumption) ?_ ?_) | (first | (with_reducible assumption) | omega | (simp only [szW] <;> omega) | (simp <;> omega)))))).mono ?_
  rintro e w2 ⟨rfl, hb2⟩
  have hz_w2 := hb2.size
  try simp only [World.size_alloc, World.size_setCell] at hz_w2
  have all_c : w2.cell? ⟨w.heap.size, 0, none⟩ = some (.int .i64 l) ∧ w2.cell? ⟨w.heap.size, 1, none⟩ = some (.slice ma lm mc) ∧ w2.cell? ⟨w.heap.size, 2, none⟩ = some (.slice ica li icc) ∧ w2.cell? ⟨w.heap.size + 1, 0, none⟩ = some (.int .i64 bseg) ∧ w2.cell? ⟨w.heap.size + 1, 1, none⟩ = some (.slice bwa blw bwc) ∧ w2.cell? ⟨w.heap.size + 1, 2, none⟩ = some (.slice bka blk bkc) ∧ w2.cell? ⟨w.heap.size + 1, 3, none⟩ = some (.slice bva blv bvc) ∧ w2.cell? ⟨w.heap.size + 1, 4, none⟩ = some (.slice bca blc bcc) ∧ w2.cell? ⟨w.heap.size + 1, 5, none⟩ = some (.int .u64 blaid) ∧ w2.cell? ⟨w.heap.size + 1 + 1, 0, none⟩ = some (.int .i64 0) ∧ w2.cell? ⟨w.heap.size + 1 + 1, 1, none⟩ = some (.slice none 0 0) ∧ w2.cell? ⟨w.heap.size + 1 + 1, 2, none⟩ = some (.slice none 0 0) := by refine ⟨?_, ?_, ?_, ?_, ?_, ?_, ?_, ?_, ?_, ?_, ?_, ?_⟩ <;> (refine (hb2.cell ?_).trans ?_ <;> first | (first | (with_reducible assumption) | omega | (simp only [szW] <;> omega) | (simp <;> omega)) | (first | (with_reducible assumption) | ((try simp (disch := first | omega | (simp only [szW] <;> omega) | fail) only [ceW]) <;> first | (with_reducible assumption) | rfl)))
  have all_f : w2.frozen? ⟨w.heap.size + 1 + 1, 0, none⟩ = false ∧ w2.frozen? ⟨w.heap.size + 1 + 1, 1, none⟩ = false ∧ w2.frozen? ⟨w.heap.size + 1 + 1, 2, none⟩ = false := by refine ⟨?_, ?_, ?_⟩ <;> (refine (hb2.frozen ?_).trans ?_ <;> first | (first | (with_reducible assumption) | omega | (simp only [szW] <;> omega) | (simp <;> omega)) | (first | (with_reducible assumption) | ((try simp (disch := first | omega | (simp only [szW] <;> omega) | fail) only [ceW]) <;> first | (with_reducible assumption) | rfl)))
  have all_z : w.heap.size < w2.heap.size ∧ w.heap.size + 1 < w2.heap.size ∧ w.heap.size + 1 + 1 < w2.heap.size := by refine ⟨?_, ?_, ?_⟩ <;> (omega)
  clear c_x0 c_x1 c_x2 c_b0 c_b1 c_b2 c_b3 c_b4 c_b5 c_r0 c_r1 c_r2 f_r0 f_r1 f_r2 z_x z_b z_r
  obtain ⟨c_x0, c_x1, c_x2, c_b0, c_b1, c_b2, c_b3, c_b4, c_b5, c_r0, c_r1, c_r2⟩ := all_c
  try clear all_c
  obtain ⟨f_r0, f_r1, f_r2⟩ := all_f
  try clear all_f
  obtain ⟨z_x, z_b, z_r⟩ := all_z
  try clear all_z
  have hB2 : Below w.heap.size w w2 := by (repeat (first | with_reducible (first | exact Below.refl _ _ | assumption | exact Hid.out (by assumption) | refine Below.alloc ?_ ?_ _ | refine Below.setCell ?_ ?_ _ | refine below_drewN ?_ _ | refine Below.drew ?_ | refine below_via (by assumption) ?_ ?_) | (first | (with_reducible assumption) | omega | (simp only [szW] <;> omega) | (simp <;> omega))))
  clear hb2
  have QF := Lib.hid (fun q => Calls.quiet_of_same ((FR.out (w2.drewN q)).mono fun _ _ h => ⟨h.1, h.2.symm⟩))
  go_upto_region 6 with (fail)
  go_quiet (exact QF.out _)
  have hq : Below w2.heap.size w2 (w2.drewN nq) := below_drewN (Below.refl _ w2) nq
  clear QF
  generalize w2.drewN nq = w3 at *
  have hz_w3 := hq.size
  try simp only [World.size_alloc, World.size_setCell] at hz_w3
  have all_c : w3.cell? ⟨w.heap.size, 0, none⟩ = some (.int .i64 l) ∧ w3.cell? ⟨w.heap.size, 1, none⟩ = some (.slice ma lm mc) ∧ w3.cell? ⟨w.heap.size, 2, none⟩ = some (.slice ica li icc) ∧ w3.cell? ⟨w.heap.size + 1, 0, none⟩ = some (.int .i64 bseg) ∧ w3.cell? ⟨w.heap.size + 1, 1, none⟩ = some (.slice bwa blw bwc) ∧ w3.cell? ⟨w.heap.size + 1, 2, none⟩ = some (.slice bka blk bkc) ∧ w3.cell? ⟨w.heap.size + 1, 3, none⟩ = some (.slice bva blv bvc) ∧ w3.cell? ⟨w.heap.size + 1, 4, none⟩ = some (.slice bca blc bcc) ∧ w3.cell? ⟨w.heap.size + 1, 5, none⟩ = some (.int .u64 blaid) ∧ w3.cell? ⟨w.heap.size + 1 + 1, 0, none⟩ = some (.int .i64 0) ∧ w3.cell? ⟨w.heap.size + 1 + 1, 1, none⟩ = some (.slice none 0 0) ∧ w3.cell? ⟨w.heap.size + 1 + 1, 2, none⟩ = some (.slice none 0 0) := by refine ⟨?_, ?_, ?_, ?_, ?_, ?_, ?_, ?_, ?_, ?_, ?_, ?_⟩ <;> (refine (hq.cell ?_).trans ?_ <;> first | (first | (with_reducible assumption) | omega | (simp only [szW] <;> omega) | (simp <;> omega)) | (first | (with_reducible assumption) | ((try simp (disch := first | omega | (simp only [szW] <;> omega) | fail) only [ceW]) <;> first | (with_reducible assumption) | rfl)))
  have all_f : w3.frozen? ⟨w.heap.size + 1 + 1, 0, none⟩ = false ∧ w3.frozen? ⟨w.heap.size + 1 + 1, 1, none⟩ = false ∧ w3.frozen? ⟨w.heap.size + 1 + 1, 2, none⟩ = false := by refine ⟨?_, ?_, ?_⟩ <;> (refine (hq.frozen ?_).trans ?_ <;> first | (first | (with_reducible assumption) | omega | (simp only [szW] <;> omega) | (simp <;> omega)) | (first | (with_reducible assumption) | ((try simp (disch := first | omega | (simp only [szW] <;> omega) | fail) only [ceW]) <;> first | (with_reducible assumption) | rfl)))
  have all_z : w.heap.size < w3.heap.size ∧ w.heap.size + 1 < w3.heap.size ∧ w.heap.size + 1 + 1 < w3.heap.size := by refine ⟨?_, ?_, ?_⟩ <;> (omega)
  clear c_x0 c_x1 c_x2 c_b0 c_b1 c_b2 c_b3 c_b4 c_b5 c_r0 c_r1 c_r2 f_r0 f_r1 f_r2 z_x z_b z_r
  obtain ⟨c_x0, c_x1, c_x2, c_b0, c_b1, c_b2, c_b3, c_b4, c_b5, c_r0, c_r1, c_r2⟩ := all_c
  try clear all_c
  obtain ⟨f_r0, f_r1, f_r2⟩ := all_f
  try clear all_f
  obtain ⟨z_x, z_b, z_r⟩ := all_z
  try clear all_z
  have hB3 : Below w.heap.size w w3 := below_via hq hB2 hB2.size
  go_wp2_with fail
  refine (TD.out _ hB3).mono ?_
  rintro e w4 ⟨v, u, rfl, o1, o2, hb4⟩
  have hz_w4 := hb4.size
  try simp only [World.size_alloc, World.size_setCell] at hz_w4
  have all_c : w4.cell? ⟨w.heap.size, 0, none⟩ = some (.int .i64 l) ∧ w4.cell? ⟨w.heap.size, 1, none⟩ = some (.slice ma lm mc) ∧ w4.cell? ⟨w.heap.size, 2, none⟩ = some (.slice ica li icc) ∧ w4.cell? ⟨w.heap.size + 1, 0, none⟩ = some (.int .i64 bseg) ∧ w4.cell? ⟨w.heap.size + 1, 1, none⟩ = some (.slice bwa blw bwc) ∧ w4.cell? ⟨w.heap.size + 1, 2, none⟩ = some (.slice bka blk bkc) ∧ w4.cell? ⟨w.heap.size + 1, 3, none⟩ = some (.slice bva blv bvc) ∧ w4.cell? ⟨w.heap.size + 1, 4, none⟩ = some (.slice bca blc bcc) ∧ w4.cell? ⟨w.heap.size + 1, 5, none⟩ = some (.int .u64 blaid) ∧ w4.cell? ⟨w.heap.size + 1 + 1, 0, none⟩ = some (.int .i64 0) ∧ w4.cell? ⟨w.heap.size + 1 + 1, 1, none⟩ = some (.slice none 0 0) ∧ w4.cell? ⟨w.heap.size + 1 + 1, 2, none⟩ = some (.slice none 0 0) := by refine ⟨?_, ?_, ?_, ?_, ?_, ?_, ?_, ?_, ?_, ?_, ?_, ?_⟩ <;> (refine (hb4.cell ?_).trans ?_ <;> first | (first | (with_reducible assumption) | omega | (simp only [szW] <;> omega) | (simp <;> omega)) | (first | (with_reducible assumption) | ((try simp (disch := first | omega | (simp only [szW] <;> omega) | fail) only [ceW]) <;> first | (with_reducible assumption) | rfl)))
  have all_f : w4.frozen? ⟨w.heap.size + 1 + 1, 0, none⟩ = false ∧ w4.frozen? ⟨w.heap.size + 1 + 1, 1, none⟩ = false ∧ w4.frozen? ⟨w.heap.size + 1 + 1, 2, none⟩ = false := by refine ⟨?_, ?_, ?_⟩ <;> (refine (hb4.frozen ?_).trans ?_ <;> first | (first | (with_reducible assumption) | omega | (simp only [szW] <;> omega) | (simp <;> omega)) | (first | (with_reducible assumption) | ((try simp (disch := first | omega | (simp only [szW] <;> omega) | fail) only [ceW]) <;> first | (with_reducible assumption) | rfl)))
  have all_z : w.heap.size < w4.heap.size ∧ w.heap.size + 1 < w4.heap.size ∧ w.heap.size + 1 + 1 < w4.heap.size := by refine ⟨?_, ?_, ?_⟩ <;> (omega)
  clear c_x0 c_x1 c_x2 c_b0 c_b1 c_b2 c_b3 c_b4 c_b5 c_r0 c_r1 c_r2 f_r0 f_r1 f_r2 z_x z_b z_r
  obtain ⟨c_x0, c_x1, c_x2, c_b0, c_b1, c_b2, c_b3, c_b4, c_b5, c_r0, c_r1, c_r2⟩ := all_c
  try clear all_c
  obtain ⟨f_r0, f_r1, f_r2⟩ := all_f
  try clear all_f
  obtain ⟨z_x, z_b, z_r⟩ := all_z
  try clear all_z
  obtain ⟨v4, vc4, rfl, -⟩ := owns_news o1
  obtain ⟨u4, uc4, rfl, -⟩ := owns_news o2
  have O1 := Lib.hid o1
  have O2 := Lib.hid o2
  have hB4 : Below w.heap.size w w4 := below_via hb4 hB3 hB3.size
  have hz34 : w3.heap.size ≤ w4.heap.size := hb4.size
  clear o1 o2 hb4
  go_wp2
  have hsw := three_set (w2 := w4) (b := w.heap.size + 1 + 1) (x := .int .i64 l) (y := .slice v4 T1.length vc4) (z := .slice u4 T2.length uc4) c_r0 c_r1 c_r2
  have hkE : ∀ q, q ≠ w.heap.size + 1 + 1 → ((((w4.setCell ⟨w.heap.size + 1 + 1, 0, none⟩ (.int .i64 l)).setCell ⟨w.heap.size + 1 + 1, 1, none⟩ (.slice v4 T1.length vc4)).setCell ⟨w.heap.size + 1 + 1, 2, none⟩ (.slice u4 T2.length uc4))).heap[q]? = w4.heap[q]? := fun q hq => by rw [heap_setCell_ne _ _ _ hq, heap_setCell_ne _ _ _ hq, heap_setCell_ne _ _ _ hq]
  refine bodyPost_ret (results_ct rfl rfl (run_loadVar_many _ Try.underlying25 rfl (by kernel_rfl) (three_at hsw.1 hsw.2.1 hsw.2.2))) rfl ⟨_, _, rfl, ?_, ?_, ?_⟩
  · exact owns_base (owns_heap O1.out fun q hq => hkE q (by have := (O1.out).lt q hq; omega)) (by omega)
  · exact owns_base (owns_heap O2.out fun q hq => hkE q (by have := (O2.out).lt q hq; omega)) (by omega)
  · exact ((hB4.setCell (by dsimp only; omega) _).setCell (by dsimp only; omega) _).setCell (by dsimp only; omega) _

set_option maxRecDepth 100000 in
set_option maxHeartbeats 1000000 in
theorem Window20_ok (l : Int) (ma ica : Option Addr) (mc icc : Nat) (ms cs : List Int) (c : SlC) (a : SlA) (lo hi : Int) (hl : c.ws.length ≤ 1000000000000) (hl2 : c.ks.length ≤ 1000000000000) (w : World) (hin : SlIn w c a) (hm : IsRow .i64 w ma ms) (hc : IsRow .i64 w ica cs) (hlm : ms.length ≤ 100000) (hlc : cs.length ≤ 100000) (hmn : ma = none → mc = 0) (hcn : ica = none → icc = 0) :
    Calls Try.prog 16 #[ixV l ma ms.length mc ica cs.length icc, slV c a, .int .i64 lo, .int .i64 hi] w (FreshIx2 w (wndL l ms cs c lo hi) (wndM l ms cs c lo hi) (wndC l ms cs c lo hi) (.int .i64 (wndE l ms cs c lo hi))) := by
  have BI := Lib.hid (fun W (hb : Below w.heap.size w W) => Build18_ok c a hl hl2 W (hin.below hb))
  have MY := Lib.hid (fun W (hb : Below w.heap.size w W) => May_ix l ma ica mc icc ms cs W (hm.below hb) (hc.below hb))
  have bad : ∀ e, wndE l ms cs c lo hi = e → e ≠ 0 → wndL l ms cs c lo hi = 0 ∧ wndM l ms cs c lo hi = [] ∧ wndC l ms cs c lo hi = [] := fun e h1 h2 => by
    unfold wndL wndM wndC
    rw [h1, if_neg h2, if_neg h2, if_neg h2]
    exact ⟨rfl, rfl, rfl⟩
  by_cases h0 : bldE c = 0
  · rw [h0] at BI
    by_cases hmay : ixMay l ms cs = true
    · rw [hmay] at MY
      obtain ⟨L, D, N, F, hL, h1, h2, hN, hD, hF, hNF, hFb, hF0, hLn, hLD, hlm', hlc', hg⟩ := ixMay_parts hmay
      have hFI : (2 : Int) ^ (l.toNat - 1) = (F : Int) := by rw [hLD, ← hF]; push_cast; rfl
      have FR := Lib.hid (fun W => First_ok l (by omega) (by omega) W)
      rw [hFI] at FR
      by_cases h3 : F = c.cs.length
      · by_cases h4 : 0 ≤ lo
        · by_cases h5 : lo ≤ hi
          · by_cases h6 : hi ≤ c.cs.length
            · have he : wndE l ms cs c lo hi = 0 := by rw [wndE, if_pos h0, if_pos hmay, if_pos ⟨by rw [hFI, h3], h4, h5, h6⟩]
              rw [show wndL l ms cs c lo hi = l by rw [wndL, if_pos he], show wndM l ms cs c lo hi = (lay l.toNat 1).map (fun n => (wndT l ms cs c lo hi n).1) by rw [wndM, if_pos he], show wndC l ms cs c lo hi = (lay l.toNat 1).map (fun n => (wndT l ms cs c lo hi n).2) by rw [wndC, if_pos he], he]
              obtain ⟨lo', rfl⟩ : ∃ n : Nat, lo = n := ⟨lo.toNat, by omega⟩
              obtain ⟨hi', rfl⟩ : ∃ n : Nat, hi = n := ⟨hi.toNat, by omega⟩
              have hsm := seekE_may (bldE_seek h0).1
              have hp1 : 2 ^ (D + 1) = 2 * F := by rw [Nat.pow_succ, hF]; omega
              have hLD1 : L = D + 1 := by omega
              have key : ∀ n, 1 ≤ n → n ≤ N → ndE l n = 0 ∧ unA l n = (unF D n : Nat) ∧ unB l n = (unT D n : Nat) := fun n n1 n2 => by
                have k2 : n < 2 ^ (D + 1) := by omega
                obtain ⟨f1, f2⟩ := un_heap (D := D) n1 k2
                have hlc2 : l = ((D + 1 : Nat) : Int) := by omega
                have hnd : ndE l n = 0 := by
                  rw [ndE, if_pos ⟨⟨by omega, by omega⟩, by omega, by
                    rw [hlc2, Int.toNat_natCast]
                    have : (2 : Int) ^ (D + 1) = ((2 ^ (D + 1) : Nat) : Int) := by push_cast; rfl
                    omega⟩]
                exact ⟨hnd, by rw [unA, if_pos hnd, hlc2]; exact f1, by rw [unB, if_pos hnd, hlc2]; exact f2⟩
              refine Win20_yes _ _ _ _ _ _ _ _ _ _ _ _ _ _ _ _ _ _ _ _ _ _ _ w _ _ _ _ _ F h3.symm h4 h5 h6 BI MY FR (Lib.hid fun W hb => ?_)
              rw [hlm', hlc', hLn]
              refine Told20_core l c.seg c.laid ma ica a.wa a.ka a.va a.ca mc icc a.wc a.kc a.vc a.cc c.ws.length c.ks.length c.vs.length c.cs.length L N F lo' hi' ms cs (fun n => (unF D n : Nat)) (fun n => (unT D n : Nat)) (fun n => (wndT l ms cs c lo' hi' n).1) (fun n => (wndT l ms cs c lo' hi' n).2) (tlF L ms) (tlF L cs) (leafT c) W hL h1 h2 hN hNF hlm' hlc' (lay_whole h1 (by omega)) (lay_whole h1 (by omega))
                (Lib.hid fun W' hb' => by have := Twin18_ok l ma ica mc icc ms cs W' ((hm.below hb).below hb') ((hc.below hb).below hb') (by omega) (by omega) (fun e => ⟨by subst e; rw [row_none hm]; rfl, hmn e⟩) (fun e => ⟨by subst e; rw [row_none hc]; rfl, hcn e⟩); rw [hlm', hlc'] at this; exact this)
                (Lib.hid fun n n1 n2 W' => by have := Under16_any l n W'; rw [(key n n1 n2).1, (key n n1 n2).2.1, (key n n1 n2).2.2] at this; exact this)
                (Lib.hid fun W' => FR.out W')
                (Lib.hid fun k hk W' hb' => Leaf18_ok c a hsm (by omega) k (by omega) W' ((hin.below hb).below hb'))
                (Lib.hid fun n n1 n2 hs => ?_) (Lib.hid fun n n1 n2 hs1 hs2 => ?_) (Lib.hid fun n n1 n2 hs1 hs2 => ?_)
              · unfold wndT
                rw [hLD, hLn, Int.toNat_natCast, Int.toNat_natCast, told_skip (by omega) n1 (by omega) (by omega)]
                exact ⟨rfl, rfl⟩
              · unfold wndT
                rw [hLD, hLn, Int.toNat_natCast, Int.toNat_natCast, told_leaf (by omega) (by omega) (by omega) (by omega), hF]
                exact ⟨rfl, rfl⟩
              · have hj := may_jn hmay (n := n) n1 (by rw [hLn]; omega)
                rw [hLn] at hj
                unfold wndT
                rw [hLD, hLn, Int.toNat_natCast, Int.toNat_natCast, told_inner (by omega) (by omega) n1 (by omega) (by omega) hj]
                exact ⟨rfl, rfl⟩
            · have he : wndE l ms cs c lo hi = 2 := by rw [wndE, if_pos h0, if_pos hmay, if_neg (fun h => h6 h.2.2.2)]
              obtain ⟨b1, b2, b3⟩ := bad 2 he (by decide)
              rw [b1, b2, b3, he]
              exact Win20_far _ _ _ _ _ _ _ _ _ _ _ _ _ _ _ _ _ _ _ _ _ _ _ w _ _ _ F h3.symm h4 h5 (by omega) BI MY FR
          · have he : wndE l ms cs c lo hi = 2 := by rw [wndE, if_pos h0, if_pos hmay, if_neg (fun h => h5 h.2.2.1)]
            obtain ⟨b1, b2, b3⟩ := bad 2 he (by decide)
            rw [b1, b2, b3, he]
            exact Win20_ord _ _ _ _ _ _ _ _ _ _ _ _ _ _ _ _ _ _ _ _ _ _ _ w _ _ _ F h3.symm h4 (by omega) BI MY FR
        · have he : wndE l ms cs c lo hi = 2 := by rw [wndE, if_pos h0, if_pos hmay, if_neg (fun h => h4 h.2.1)]
          obtain ⟨b1, b2, b3⟩ := bad 2 he (by decide)
          rw [b1, b2, b3, he]
          exact Win20_neg _ _ _ _ _ _ _ _ _ _ _ _ _ _ _ _ _ _ _ _ _ _ _ w _ _ _ F h3.symm (by omega) BI MY FR
      · have he : wndE l ms cs c lo hi = 2 := by rw [wndE, if_pos h0, if_pos hmay, if_neg (fun h => h3 (by have := h.1; rw [hFI] at this; omega))]
        obtain ⟨b1, b2, b3⟩ := bad 2 he (by decide)
        rw [b1, b2, b3, he]
        exact Win20_len _ _ _ _ _ _ _ _ _ _ _ _ _ _ _ _ _ _ _ _ _ _ _ w _ _ _ F h3 BI MY FR
    · have he : wndE l ms cs c lo hi = 8 := by rw [wndE, if_pos h0, if_neg hmay]
      rw [show ixMay l ms cs = false by simpa using hmay] at MY
      obtain ⟨b1, b2, b3⟩ := bad 8 he (by decide)
      rw [b1, b2, b3, he]
      exact Win20_bad _ _ _ _ _ _ _ _ _ _ _ _ _ _ _ _ _ _ _ _ _ _ _ w _ _ _ BI MY
  · have he : wndE l ms cs c lo hi = bldE c := by rw [wndE, if_neg h0]
    obtain ⟨b1, b2, b3⟩ := bad _ he h0
    rw [b1, b2, b3, he]
    exact Win20_no _ _ _ _ _ _ _ _ _ _ _ _ _ _ _ _ _ _ _ _ _ _ _ w _ _ _ _ h0 BI
end
end Go.Proofs.Ytbmibaafkgleeaa
