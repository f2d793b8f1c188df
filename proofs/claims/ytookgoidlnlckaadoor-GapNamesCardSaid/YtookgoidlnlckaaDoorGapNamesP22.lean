/- Merged: FilS, Filled, Empty04, Spr, SetCs, PutL, ApFull, Share, LoadW, Ref05, Ref09, Ref09C. -/
import Derived.Test.YtookgoidlnlckaaDoorGapNamesP18
import Derived.Test.YtookgoidlnlckaaDoorGapNamesP21
import Derived.Test.YtookgoidlnlckaaDoorGapNamesP5
import Derived.Test.YtookgoidlnlckaaDoorGapNamesP12
import Derived.Test.YtookgoidlnlckaaDoorGapNamesP2
import Derived.Deep.CutRange
import Derived.Test.YtookgoidlnlckaaDoorGapNamesP14
import Derived.Test.YtookgoidlnlckaaDoorGapNamesP8
import Derived.Test.YtookgoidlnlckaaDoorGapNamesP10
import Derived.Test.YtookgoidlnlckaaDoorGapNamesP1
import Derived.Test.YtookgoidlnlckaaDoorGapNamesP3
import Derived.Test.YtookgoidlnlckaaDoorGapNamesP15
import Derived.Test.YtookgoidlnlckaaDoorGapNamesP11
namespace Go.Proofs.YtookgoidlnlckaaDoor
set_option maxRecDepth 100000
set_option maxHeartbeats 40000000
set_option linter.unusedVariables false
set_option linter.unusedSimpArgs false
section
open Go.RowKit
structure FilS (B : Nat) (W : World) (b g1 g2 g3 g4 k1 k2 k3 k4 lw n lc : Nat) (c : SlC) : Prop where
 c0 : W.cell? ⟨b, 0, none⟩ = some (.int .i64 c.seg)
 c1 : W.cell? ⟨b, 1, none⟩ = some (.slice (some ⟨g1, 0, none⟩) lw k1)
 c2 : W.cell? ⟨b, 2, none⟩ = some (.slice (some ⟨g2, 0, none⟩) n k2)
 c3 : W.cell? ⟨b, 3, none⟩ = some (.slice (some ⟨g3, 0, none⟩) n k3)
 c4 : W.cell? ⟨b, 4, none⟩ = some (.slice (some ⟨g4, 0, none⟩) lc k4)
 c5 : W.cell? ⟨b, 5, none⟩ = some (.int .u64 c.laid)
 f1 : W.frozen? ⟨b, 1, none⟩ = false
 f5 : W.frozen? ⟨b, 5, none⟩ = false
 o1 : W.ownsRow B 27 1 (.slice (some ⟨g1, 0, none⟩) lw k1) lw (c.ws.map (Value.int .u64))
 o2 : W.ownsRow B 2 1 (.slice (some ⟨g2, 0, none⟩) n k2) n (c.ks.map (Value.int .i64))
 o3 : W.ownsRow B 2 1 (.slice (some ⟨g3, 0, none⟩) n k3) n (c.vs.map (Value.int .i64))
 o4 : W.ownsRow B 3 1 (.slice (some ⟨g4, 0, none⟩) lc k4) lc (c.cs.map (Value.int .i64))
 bB : b < B
 n23 : g2 ≠ g3
theorem owns_ne {w : World} {B g g' n n' k k' : Nat} {e e' : TypeId} {xs xs' : List Value} (ha : w.ownsRow B e 1 (.slice (some ⟨g, 0, none⟩) n k) n xs) (hb : w.ownsRow B e' 1 (.slice (some ⟨g', 0, none⟩) n' k') n' xs') (hc : e ≠ e') : g ≠ g' := by
 rcases owns_apart ha hb hc with h | h
 · cases h
 · intro hgg; exact h (by subst hgg; rfl)
theorem own_cells {k : IntKind} {w : World} {B g n cap : Nat} {e : TypeId} {xs : List Int} (h : w.ownsRow B e 1 (.slice (some ⟨g, 0, none⟩) n cap) n (xs.map (Value.int k))) {j : Nat} (hj : j < n) :
    w.cell? ⟨g, j, none⟩ = some (.int k (xs.getD j 0)) ∧ w.frozen? ⟨g, j, none⟩ = false := by
 have hl := own_len h
 subst hl
 obtain ⟨⟨x, hx, hc⟩, hf, -⟩ := row_cell h hj
 rw [hx.out]
 exact ⟨hc, hf⟩
section
variable {B b g1 g2 g3 g4 k1 k2 k3 k4 lw n lc : Nat} {W W' : World} {c : SlC}
theorem FilS.nums (h : FilS B W b g1 g2 g3 g4 k1 k2 k3 k4 lw n lc c) : B ≤ g1 ∧ B ≤ g2 ∧ B ≤ g3 ∧ B ≤ g4 ∧ g1 < W.heap.size ∧ g2 < W.heap.size ∧ g3 < W.heap.size ∧ g4 < W.heap.size ∧ g1 ≠ g2 ∧ g1 ≠ g3 ∧ g1 ≠ g4 ∧ g2 ≠ g4 ∧ g3 ≠ g4 ∧ b < W.heap.size :=
  ⟨(h.o1.lt g1 rfl).1, (h.o2.lt g2 rfl).1, (h.o3.lt g3 rfl).1, (h.o4.lt g4 rfl).1, (h.o1.lt g1 rfl).2, (h.o2.lt g2 rfl).2, (h.o3.lt g3 rfl).2, (h.o4.lt g4 rfl).2, owns_ne h.o1 h.o2 (by decide), owns_ne h.o1 h.o3 (by decide), owns_ne h.o1 h.o4 (by decide), owns_ne h.o2 h.o4 (by decide), owns_ne h.o3 h.o4 (by decide), World.block_lt_of_cell? _ _ h.c0⟩
theorem FilS.heap (h : FilS B W b g1 g2 g3 g4 k1 k2 k3 k4 lw n lc c) (hb : W'.heap[b]? = W.heap[b]?) (h1 : W'.heap[g1]? = W.heap[g1]?) (h2 : W'.heap[g2]? = W.heap[g2]?) (h3 : W'.heap[g3]? = W.heap[g3]?) (h4 : W'.heap[g4]? = W.heap[g4]?) : FilS B W' b g1 g2 g3 g4 k1 k2 k3 k4 lw n lc c :=
  ⟨(World.cell?_of_block (a := ⟨b, 0, none⟩) hb).trans h.c0, (World.cell?_of_block (a := ⟨b, 1, none⟩) hb).trans h.c1, (World.cell?_of_block (a := ⟨b, 2, none⟩) hb).trans h.c2, (World.cell?_of_block (a := ⟨b, 3, none⟩) hb).trans h.c3, (World.cell?_of_block (a := ⟨b, 4, none⟩) hb).trans h.c4, (World.cell?_of_block (a := ⟨b, 5, none⟩) hb).trans h.c5,
    (World.frozen?_of_block (a := ⟨b, 1, none⟩) hb).trans h.f1, (World.frozen?_of_block (a := ⟨b, 5, none⟩) hb).trans h.f5,
    owns_heap h.o1 fun j hj => by cases hj; exact h1, owns_heap h.o2 fun j hj => by cases hj; exact h2, owns_heap h.o3 fun j hj => by cases hj; exact h3, owns_heap h.o4 fun j hj => by cases hj; exact h4, h.bB, h.n23⟩
theorem FilS.below (h : FilS B W b g1 g2 g3 g4 k1 k2 k3 k4 lw n lc c) (hb : Below W.heap.size W W') : FilS B W' b g1 g2 g3 g4 k1 k2 k3 k4 lw n lc c := by
 have q := h.nums
 exact h.heap (hb.block _ xo) (hb.block _ xo) (hb.block _ xo) (hb.block _ xo) (hb.block _ xo)
theorem FilS.drew (h : FilS B W b g1 g2 g3 g4 k1 k2 k3 k4 lw n lc c) : FilS B W.drew b g1 g2 g3 g4 k1 k2 k3 k4 lw n lc c := h.heap rfl rfl rfl rfl rfl
theorem FilS.setL (h : FilS B W b g1 g2 g3 g4 k1 k2 k3 k4 lw n lc c) (y : Int) : FilS B (W.setCell ⟨b, 5, none⟩ (.int .u64 y)) b g1 g2 g3 g4 k1 k2 k3 k4 lw n lc ⟨c.seg, c.ws, c.ks, c.vs, c.cs, y⟩ := by
 have q := h.nums
 have hbB := h.bB
 have hk : ∀ z, z ≠ b → (W.setCell ⟨b, 5, none⟩ (.int .u64 y)).heap[z]? = W.heap[z]? := fun z hz => heap_setCell_ne _ _ _ hz
 exact ⟨set_keep (by simp) h.c0, set_keep (by simp) h.c1, set_keep (by simp) h.c2, set_keep (by simp) h.c3, set_keep (by simp) h.c4, World.cell?_setCell_same _ _ _ h.c5,
   by rw [World.frozen?_setCell]; exact h.f1, by rw [World.frozen?_setCell]; exact h.f5,
   owns_heap h.o1 fun j hj => by cases hj; exact hk _ (by dsimp only; omega), owns_heap h.o2 fun j hj => by cases hj; exact hk _ (by dsimp only; omega), owns_heap h.o3 fun j hj => by cases hj; exact hk _ (by dsimp only; omega), owns_heap h.o4 fun j hj => by cases hj; exact hk _ (by dsimp only; omega), h.bB, h.n23⟩
end
end
section
open Go.RowKit Go.Shelf
attribute [local go_sem] Oper.semAt_some
structure FilK (w w2 W : World) : Prop where
 bel : Below w.heap.size w W
 keep : ∀ q, q < w.heap.size + 2 → q ≠ w.heap.size → W.heap[q]? = w2.heap[q]?
 size : w.heap.size + 2 ≤ W.heap.size
theorem FilK.below {w w2 W W' : World} (h : FilK w w2 W) (hb : Below W.heap.size W W') : FilK w w2 W' :=
  ⟨below_via hb h.bel (by have := h.size; omega), fun q hq hne => (hb.block q (by have := h.size; omega)).trans (h.keep q hq hne), Nat.le_trans h.size hb.size⟩
theorem FilK.drew {w w2 W : World} (h : FilK w w2 W) : FilK w w2 W.drew := ⟨h.bel.drew, h.keep, h.size⟩
theorem FilK.setCell {w w2 W : World} (h : FilK w w2 W) {a : Addr} (ha : a.block = w.heap.size ∨ w.heap.size + 2 ≤ a.block) (v : Value) : FilK w w2 (W.setCell a v) :=
  ⟨h.bel.setCell xo v, fun q hq hne => (heap_setCell_ne _ _ _ xo).trans (h.keep q hq hne), by rw [World.size_setCell]; exact h.size⟩
end
section
open Go.RowKit Go.Shelf
attribute [local go_sem] Oper.semAt_some
end
section
open Go.RowKit
theorem gd_may {c : SlC} {S lw n lc : Nat} (h : SlGd c S lw n lc) (hS : pwB (S : Int) = true) (hM : pwB (lc : Int) = true) (hlw : lw = (n + 63) / 64) : slMay c = true := by
 have hlc1 : 1 ≤ lc := by
  rcases Nat.eq_zero_or_pos lc with e | e
  · rw [e] at hM; cases hM
  · exact e
 have h4 := h.s4
 have hn : (n : Int) / (S : Int) = lc := by
  rw [h.cn, Int.natCast_mul, Int.mul_ediv_cancel_left _ xo]
 have hn2 : (n : Int) % (S : Int) = 0 := by
  rw [h.cn, Int.natCast_mul, Int.mul_emod_right]
 have hle : S * 1 ≤ S * lc := Nat.mul_le_mul_left _ hlc1
 simp only [slMay, slHead, fitB, wMayB, clrB, cntB, Bool.and_eq_true, decide_eq_true_eq, List.all_eq_true]
 rw [h.elk, h.elv, h.elw, h.elc, h.seg, hn, hn2]
 refine ⟨⟨⟨⟨⟨⟨⟨⟨⟨⟨⟨by have := h.s4; omega, by have := h.s64; omega⟩, hS⟩, by have := h.cn; omega⟩, by have := h.nm; omega⟩, rfl⟩, hM⟩, rfl⟩, hlw, ?_⟩, rfl⟩, ?_⟩, ?_⟩
 · intro i hi
   have := (List.mem_range'_1.1 hi).1
   rw [h.hi i this]
   rfl
 · intro i hi
   cases hb : bitW c.ws i with
   | true => rfl
   | false =>
    have := h.clr i hb
    simp only [Bool.false_or, Bool.and_eq_true, beq_iff_eq]
    exact this
 · intro k hk
   have := h.cnt k (List.mem_range.1 hk)
   rw [Int.toNat_natCast, this, beq_self_eq_true]
theorem gd_fit {c : SlC} {S lw n lc : Nat} (h : SlGd c S lw n lc) (hm : slMay c = true) : fitB (S : Int) n = true := by
 simp only [slMay, slHead, Bool.and_eq_true] at hm
 have := hm.1.1.1.1.1
 rwa [h.elk, h.seg] at this
theorem over_ok {c : SlC} {S lw n lc : Nat} (h : SlGd c S lw n lc) (hm : slMay c = true) (sa : SlA) (lo hi : Nat) (hlo : lo ≤ hi) (hhi : hi ≤ n) (L : List (Int × Int)) (hL : L.length ≤ hi - lo) (la : Option Addr) (pl : Nat) (w : World) (hin : SlIn w c sa) (hla : IsRow .i64 w la (prI L)) :
    Calls Tryd.prog 50 #[slV c sa, .int .i64 lo, .int .i64 hi, .slice la L.length pl] w (FreshSl2 w (spC c lo hi L) (.int .i64 0)) := by
 have n1 := h.n1
 have nm := h.nm
 have s4 := h.s4
 have wn := h.wn
 have hlc : 0 < lc := by
  rcases Nat.eq_zero_or_pos lc with e | e
  · have := h.cn; rw [e] at this; omega
  · exact e
 have hlc2 : lc ≤ 65536 := by
  have h9 : 1 * lc ≤ S * lc := Nat.mul_le_mul_right _ xo
  have := h.cn
  omega
 have hlw2 : lw ≤ 65536 := by
  have := slHead_facts (slMay_head hm)
  obtain ⟨S', M, -, -, -, b3, -, -, -, b7, -, b9, -⟩ := this
  rw [h.elw] at b9
  omega
 refine over_core w c.seg sa.wa sa.ka sa.va sa.ca sa.wc sa.kc sa.vc sa.cc c.ws.length c.ks.length c.vs.length c.cs.length c.laid lo hi L.length (ints (plR L.length lo hi)) la pl (spC c lo hi L) (by rw [ints_length, plR_length]) (hid fun W hb => ?_) (hid fun W hb => Places_ok L.length lo hi hlo xo hL W) (hid fun W pa pc hb hp => ?_)
 · have := slCheck_ok c sa (by rw [h.elw]; omega) (by rw [h.elk]; omega) W (hin.below hb)
   rwa [show slE c = 0 by simp [slE, hm]] at this
 · have hin2 := hin.below hb
   have e1 := h.elw
   have e2 := h.elk
   have e3 := h.elv
   have e4 := h.elc
   rw [e1, e2, e3, e4]
   refine slFill_core W c.seg sa.wa sa.ka sa.va sa.ca sa.wc sa.kc sa.vc sa.cc lw n lc c.laid c lo hi L.length S (plR L.length lo hi) L pa la pc pl rfl rfl e1 e2 e3 e4 xo xo hlc nm hlw2 hlc2 h.seg s4 hlo hhi wn h.cn (plR_length _ _ _) rfl xo (fun k hk => plR_pv hk hL) (fun j hj => (h.tks j xo).ok) (fun k hk => (SlGd.lys (h.tks (hi - lo) xo) (fun k => plR_ltn hL hhi xo k) L k).ok) (hid hp) (hid (hla.below hb)) (hid fun W' hb' => ?_) (hid fun W' hb' => ?_)
   · have := part_ok c sa (by rw [e1]; omega) (by rw [e2]; omega) lo hi W' (hin2.below hb')
     rw [show partE c lo hi = 0 by unfold partE; rw [if_pos hm, if_pos (by rw [e2]; omega)]] at this
     simpa only [slV, e1, e2, e3, e4] using this
   · have := slTwin_ok c sa W' (hin2.below hb') (by rw [e1]; omega) (by rw [e2]; omega) (by rw [e3]; omega) (by rw [e4]; omega)
     simpa only [slV, e1, e2, e3, e4] using this
def emptyL (S M : Nat) (laid : Int) : SlC := ⟨S, List.replicate ((S * M + 63) / 64) 0, List.replicate (S * M) 0, List.replicate (S * M) 0, List.replicate M 0, laid⟩
theorem emptyL_gd {S M : Nat} (h4 : 4 ≤ S) (h6 : S ≤ 64) (hM : 1 ≤ M) (hm : S * M ≤ 65536) (laid : Int) : SlGd (emptyL S M laid) S ((S * M + 63) / 64) (S * M) M := by
 have z := zero_gd h4 h6 hM hm (lw := (S * M + 63) / 64) rfl
 exact ⟨z.seg, z.elw, z.elk, z.elv, z.elc, z.s4, z.s64, z.cn, z.wn, z.n1, z.nm, z.u, z.cnt, z.hi, z.clr⟩
def wideC (S M : Nat) (laid : Int) (L : List (Int × Int)) : SlC := spC (emptyL S M laid) 0 (S * M) L
theorem new_nums {S M : Nat} (h4 : 4 ≤ S) (hm : S * M ≤ 65536) : (((S * M : Nat) : Int) + 63).tdiv 64 = ((S * M + 63) / 64 : Nat) ∧ ((S * M : Nat) : Int).tdiv S = M ∧ (S * M + 63) / 64 ≤ 2000 ∧ M ≤ 65536 := by
 have h9 : 1 * M ≤ S * M := Nat.mul_le_mul_right _ xo
 refine ⟨?_, ?_, by omega, by omega⟩
 · rw [Int.tdiv_eq_ediv_of_nonneg xo]; omega
 · rw [Int.tdiv_eq_ediv_of_nonneg xo, Int.natCast_mul, Int.mul_ediv_cancel_left _ xo]
theorem Into_ok {c : SlC} {S lw n lc : Nat} (h : SlGd c S lw n lc) (hm : slMay c = true) (sa : SlA) (M : Nat) (hM : 1 ≤ M) (hS : pwB (S : Int) = true) (hMp : pwB (M : Int) = true) (hsm : S * M ≤ 65536) (L : List (Int × Int)) (hL : L.length ≤ S * M) (la : Option Addr) (pl : Nat) (w : World) (hin : SlIn w c sa) (hla : IsRow .i64 w la (prI L)) :
    Calls Tryd.prog 29 #[slV c sa, .int .i64 ((S * M : Nat) : Int), .slice la L.length pl] w (FreshSl2 w (wideC S M c.laid L) (.int .i64 0)) := by
 obtain ⟨q1, q2, q3, q4⟩ := new_nums (M := M) h.s4 hsm
 have ge := emptyL_gd h.s4 h.s64 hM hsm c.laid
 have gm := gd_may ge hS hMp rfl
 refine Into_core w c.seg sa.wa sa.ka sa.va sa.ca sa.wc sa.kc sa.vc sa.cc c.ws.length c.ks.length c.vs.length c.cs.length c.laid (S * M) L.length la pl (zeroSl S (S * M) ((S * M + 63) / 64) M) (wideC S M c.laid L) ge.u (hid fun W hb => ?_) (hid fun W hb => ?_) (hid fun W sa' hb hi z1 z2 z3 z4 => ?_)
 · have := slCheck_ok c sa (by rw [h.elw]; have := slHead_facts (slMay_head hm); obtain ⟨S', M', -, -, -, b3, -, -, -, b7, -, b9, -⟩ := this; rw [h.elw] at b9; omega) (by rw [h.elk]; have := h.nm; omega) W (hin.below hb)
   rwa [show slE c = 0 by simp [slE, hm]] at this
 · rw [h.seg]
   refine slNew_core W S (S * M) ((S * M + 63) / 64) M h.s4 hsm h.s64 q1 q2 xo q4 (hid fun W' => ?_)
   have := fits_ok (S : Int) ((S * M : Nat) : Int) W'
   rwa [gd_fit ge gm] at this
 · exact over_ok ge gm sa' 0 (S * M) (Nat.zero_le _) (Nat.le_refl _) L xo la pl W hi (hla.below hb)
end
section
open Go.RowKit
def setCs : World → Nat → Nat → List Value → World
  | W, _, _, [] => W
  | W, b, i, v :: l => setCs (W.setCell ⟨b, i, none⟩ v) b (i + 1) l
theorem setCs_other {b : Nat} {p : Addr} (hp : p.block ≠ b) : ∀ (l : List Value) (W : World) (i : Nat), (setCs W b i l).cell? p = W.cell? p
  | [], W, i => rfl
  | v :: l, W, i => by
   rw [setCs, setCs_other hp l]
   exact World.cell?_setCell_other _ _ _ _ (by intro e; exact hp (by rw [← e]))
theorem setCs_low {b k : Nat} : ∀ (l : List Value) (W : World) (i : Nat), k < i → (setCs W b i l).cell? ⟨b, k, none⟩ = W.cell? ⟨b, k, none⟩
  | [], W, i, _ => rfl
  | v :: l, W, i, h => by
   rw [setCs, setCs_low l _ _ xo]
   exact World.cell?_setCell_other _ _ _ _ (by intro e; simp at e <;> omega)
theorem setCs_at {b : Nat} : ∀ (l : List Value) (W : World) (i : Nat), (∀ j, j < l.length → ∃ u, W.cell? ⟨b, i + j, none⟩ = some u) → ∀ j v, l[j]? = some v → (setCs W b i l).cell? ⟨b, i + j, none⟩ = some v
  | [], W, i, _, j, v, h => by simp at h
  | x :: l, W, i, hc, 0, v, h => by
   obtain ⟨u, hu⟩ := hc 0 (by simp)
   rw [setCs, Nat.add_zero, setCs_low l _ _ xo]
   simp at h
   rw [← h]
   exact World.cell?_setCell_same _ _ _ hu
  | x :: l, W, i, hc, j + 1, v, h => by
   rw [setCs, show i + (j + 1) = (i + 1) + j by omega]
   refine setCs_at l _ _ (fun k hk => ?_) j v (by simpa using h)
   obtain ⟨u, hu⟩ := hc (k + 1) (by simpa using hk)
   refine ⟨u, ?_⟩
   rw [World.cell?_setCell_other _ _ _ _ (by intro e; simp at e <;> omega)]
   rw [show i + 1 + k = i + (k + 1) by omega]
   exact hu
theorem setCs_all {b : Nat} {l : List Value} {W : World} (hc : ∀ j, j < l.length → ∃ u, W.cell? ⟨b, j, none⟩ = some u) : ∀ j v, l[j]? = some v → (setCs W b 0 l).cell? ⟨b, j, none⟩ = some v := fun j v h => by
 have := setCs_at (b := b) l W 0 (fun j hj => by rw [Nat.zero_add]; exact hc j hj) j v h
 rwa [Nat.zero_add] at this
theorem setCs_below {B b : Nat} {w : World} (hb : B ≤ b) : ∀ (l : List Value) (W : World) (i : Nat), Below B w W → Below B w (setCs W b i l)
  | [], W, i, h => h
  | v :: l, W, i, h => setCs_below hb l _ _ (h.setCell (by exact hb) v)
theorem setCs_heap {b k : Nat} (hk : k ≠ b) : ∀ (l : List Value) (W : World) (i : Nat), (setCs W b i l).heap[k]? = W.heap[k]?
  | [], W, i => rfl
  | v :: l, W, i => by rw [setCs, setCs_heap hk l]; exact heap_setCell_ne _ _ _ hk
theorem setCs_owns {B b : Nat} {e : TypeId} {s n : Nat} {v : Value} {xs : List Value} (hb : b < B) {W : World} {i : Nat} (l : List Value) (h : W.ownsRow B e s v n xs) : (setCs W b i l).ownsRow B e s v n xs :=
  owns_heap h fun k hk => setCs_heap (by have := (h.lt k hk).1; omega) l W i
theorem six_some {W : World} {b : Nat} {v0 v1 v2 v3 v4 v5 : Value} (h : W.cell? ⟨b, 0, none⟩ = some v0 ∧ W.cell? ⟨b, 1, none⟩ = some v1 ∧ W.cell? ⟨b, 2, none⟩ = some v2 ∧ W.cell? ⟨b, 3, none⟩ = some v3 ∧ W.cell? ⟨b, 4, none⟩ = some v4 ∧ W.cell? ⟨b, 5, none⟩ = some v5) : ∀ j, j < 6 → ∃ u, W.cell? ⟨b, j, none⟩ = some u := by
 obtain ⟨h0, h1, h2, h3, h4, h5⟩ := h
 intro j hj
 match j, hj with
 | 0, _ => exact ⟨_, h0⟩
 | 1, _ => exact ⟨_, h1⟩
 | 2, _ => exact ⟨_, h2⟩
 | 3, _ => exact ⟨_, h3⟩
 | 4, _ => exact ⟨_, h4⟩
 | 5, _ => exact ⟨_, h5⟩
end
section
open Go.RowKit Go.Shelf Go.Sort
theorem Even_core (seg : Int) (wa ka va ca : Option Addr) (wc kc vc cc lw n lv lc : Nat) (laid : Int) (lo hi : Int) (L : List (Int × Int)) (d : SlC) (w : World)
    (PR : Hid (∀ W, Below w.heap.size w W → Calls Tryd.prog 27 #[.agg #[.int .i64 seg, .slice wa lw wc, .slice ka n kc, .slice va lv vc, .slice ca lc cc, .int .u64 laid], .int .i64 lo, .int .i64 hi] W (FreshPr2 W L (.int .i64 0))))
    (OV : Hid (∀ la pl W, Below w.heap.size w W → IsRow .i64 W la (prI L) → Calls Tryd.prog 50 #[.agg #[.int .i64 seg, .slice wa lw wc, .slice ka n kc, .slice va lv vc, .slice ca lc cc, .int .u64 laid], .int .i64 lo, .int .i64 hi, .slice la L.length pl] W (FreshSl2 W d (.int .i64 0)))) :
    Calls Tryd.prog 39 #[.agg #[.int .i64 seg, .slice wa lw wc, .slice ka n kc, .slice va lv vc, .slice ca lc cc, .int .u64 laid], .int .i64 lo, .int .i64 hi] w (FreshSl2 w d (.int .i64 0)) := by
 go_enter Tryd.func39, Tryd.ntmps39
 go_wp2_with fail
 refine (PR.out _ xbel).mono ?_
 rintro e w1 ⟨v, rfl, ho1, hb1⟩
 have hz_w1 := hb1.size
 try simp only [World.size_alloc, World.size_setCell] at hz_w1
 have hh := bc6 hb1 (au6 (al6 (b := w.heap.size) (by simp)))
 obtain ⟨c_t0, c_t1, c_t2, c_t3, c_t4, c_t5⟩ := hh
 have z_t := blt hb1 (auz (alz (b := w.heap.size) (by simp)))
 have hh := bc6 hb1 (al6 (b := w.heap.size + 1) (by simp))
 obtain ⟨c_r0, c_r1, c_r2, c_r3, c_r4, c_r5⟩ := hh
 have hh := bf6 hb1 (alz (b := w.heap.size + 1) (by simp)) (alf6 (b := w.heap.size + 1) (by simp))
 obtain ⟨f_r0, f_r1, f_r2, f_r3, f_r4, f_r5⟩ := hh
 have z_r := blt hb1 (alz (b := w.heap.size + 1) (by simp))
 have hB1 : Below w.heap.size w w1 := xbel
 have hza := z_r
 obtain ⟨la, pl, rfl, hi1, -, -, -, -⟩ := row_of_owns ho1
 have OV1 := hid (OV.out la pl w1 hB1 hi1)
 have HB1 := hid hB1
 clear hb1 hB1 ho1 hi1
 go_wp2_with fail
 refine (OV1.out).mono ?_
 rintro e w2 ⟨v1, v2, v3, v4, rfl, p1, p2, p3, p4, hb2⟩
 have hz_w2 := hb2.size
 try simp only [World.size_alloc, World.size_setCell] at hz_w2
 have hh := bc6 hb2 ⟨c_t0, c_t1, c_t2, c_t3, c_t4, c_t5⟩
 clear c_t0 c_t1 c_t2 c_t3 c_t4 c_t5
 obtain ⟨c_t0, c_t1, c_t2, c_t3, c_t4, c_t5⟩ := hh
 replace z_t := blt hb2 z_t
 have hh := bc6 hb2 ⟨c_r0, c_r1, c_r2, c_r3, c_r4, c_r5⟩
 clear c_r0 c_r1 c_r2 c_r3 c_r4 c_r5
 obtain ⟨c_r0, c_r1, c_r2, c_r3, c_r4, c_r5⟩ := hh
 have hh := bf6 hb2 z_r ⟨f_r0, f_r1, f_r2, f_r3, f_r4, f_r5⟩
 clear f_r0 f_r1 f_r2 f_r3 f_r4 f_r5
 obtain ⟨f_r0, f_r1, f_r2, f_r3, f_r4, f_r5⟩ := hh
 replace z_r := blt hb2 z_r
 have hB2 := below_via hb2 HB1.out HB1.out.size
 obtain ⟨a1, k1, rfl, -, -, -, -, -⟩ := row_of_owns p1
 obtain ⟨a2, k2, rfl, -, -, -, -, -⟩ := row_of_owns p2
 obtain ⟨a3, k3, rfl, -, -, -, -, -⟩ := row_of_owns p3
 obtain ⟨a4, k4, rfl, -, -, -, -, -⟩ := row_of_owns p4
 have HP := hid (And.intro p1 (And.intro p2 (And.intro p3 p4)))
 clear p1 p2 p3 p4 hb2
 have hz1 : w.heap.size + 1 < w1.heap.size := hza
 go_wp2
 have HC := hid (six_some ⟨c_r0, c_r1, c_r2, c_r3, c_r4, c_r5⟩)
 refine bodyPost_ret (results_ct rfl rfl (run_loadVar_many _ Tryd.underlying29 rfl xk (setCs_all (W := w2) (b := w.heap.size + 1) (l := [.int .i64 d.seg, .slice a1 d.ws.length k1, .slice a2 d.ks.length k2, .slice a3 d.vs.length k3, .slice a4 d.cs.length k4, .int .u64 d.laid]) HC.out))) rfl ⟨_, _, _, _, rfl, ?_, ?_, ?_, ?_, ?_⟩
 · exact owns_base (setCs_owns (b := w.heap.size + 1) (i := 0) hz1 [.int .i64 d.seg, .slice a1 d.ws.length k1, .slice a2 d.ks.length k2, .slice a3 d.vs.length k3, .slice a4 d.cs.length k4, .int .u64 d.laid] HP.out.1) xo
 · exact owns_base (setCs_owns (b := w.heap.size + 1) (i := 0) hz1 [.int .i64 d.seg, .slice a1 d.ws.length k1, .slice a2 d.ks.length k2, .slice a3 d.vs.length k3, .slice a4 d.cs.length k4, .int .u64 d.laid] HP.out.2.1) xo
 · exact owns_base (setCs_owns (b := w.heap.size + 1) (i := 0) hz1 [.int .i64 d.seg, .slice a1 d.ws.length k1, .slice a2 d.ks.length k2, .slice a3 d.vs.length k3, .slice a4 d.cs.length k4, .int .u64 d.laid] HP.out.2.2.1) xo
 · exact owns_base (setCs_owns (b := w.heap.size + 1) (i := 0) hz1 [.int .i64 d.seg, .slice a1 d.ws.length k1, .slice a2 d.ks.length k2, .slice a3 d.vs.length k3, .slice a4 d.cs.length k4, .int .u64 d.laid] HP.out.2.2.2) xo
 · exact setCs_below (b := w.heap.size + 1) xo [.int .i64 d.seg, .slice a1 d.ws.length k1, .slice a2 d.ks.length k2, .slice a3 d.vs.length k3, .slice a4 d.cs.length k4, .int .u64 d.laid] _ 0 hB2
end
section
open Go.RowKit
section
variable {P : Program}
theorem run_append_full (w : World) (base : Nat) (t ty e : TypeId) (z : Value) (size bytes : Nat) (ht : P.underlying t = some (.slice e))
    (hinfo : (P.info? e).map (fun i => (i.zero, i.size, i.bytes)) = some (some z, size, bytes)) (hzs : z.cells.size = size) (hsz : 0 < size)
    (bo : Option Addr) (n : Nat) (xs : List Value) (hlo : xs.length = n * size) (hb0 : bo = none → n = 0) (holds : ∀ b, bo = some b → ∀ j u, xs[j]? = some u → w.cell? (b.add j) = some u)
    (ad : Addr) (m c : Nat) (news : List Value) (hl : news.length = m * size) (hnews : ∀ j u, news[j]? = some u → w.cell? (ad.add j) = some u) (h1 : ∀ u ∈ news, u.oneCell' = true)
    (hm : 0 < m) (h63 : n + m ≤ 4294967296) (hbytes : bytes ≤ 1024) (hbase : base ≤ w.heap.size) :
    ∃ v' w', (Builtin.append_ #[t, t] ty #[.slice bo n n, .slice (some ad) m c]).run P w = .ok v' w' ∧ w'.ownsRow base e size v' (n + m) (xs ++ news) ∧ w.grownBy w' none ∧
      (∀ k, v'.ownBlock = some k → w.heap.size ≤ k) := by
 have hm1 : n + m ≤ maxLen := by unfold maxLen; omega
 have hm2 : (n + m) * bytes ≤ 140737488355328 := Nat.le_trans (Nat.mul_le_mul h63 hbytes) (by decide)
 cases bo with
 | none =>
  obtain rfl := hb0 rfl
  have hx : xs = [] := List.eq_nil_of_length_eq_zero (by simpa using hlo)
  subst hx
  obtain ⟨v', w', hr, ho, hg, hv⟩ := run_append_x (P := P) w base t ty e z size bytes ht hinfo hzs hsz (.slice none 0 0) 0 [] (World.ownsRow_nil w _ e size) (some ad) m c news hl (fun h => by cases h) (fun a h => by cases h; exact hnews) h1 h63 hbytes hbase
  refine ⟨v', w', hr, ho, hg, ?_⟩
  intro k hk
  rcases hv with hv | hv
  · rw [hk] at hv; cases hv
  · exact hv k hk
 | some b =>
  obtain ⟨i, hi, hz, hs, hb⟩ := info_parts hinfo
  have hr := run_append_grow (P := P) w t ty e i z ht hi hz b n n xs (by rw [hs]; exact hlo) (holds b rfl) ad m c news (by rw [hs]; exact hl) hnews xo xo (growslice_fits xo (by rw [hb]; exact hm2))
  have hge := grownCap_ge w (n + m) n e
  have hcm : grownCap w (n + m) n e ≤ maxLen := grownCap_le_maxLen w (n + m) n e hm1
  have hlen : (xs ++ news).length = (n + m) * size := by rw [List.length_append, hlo, hl, Nat.add_mul]
  refine ⟨_, _, hr, ⟨hlen, .inr ⟨w.heap.size, _, _, rfl, hbase, heap_alloc_new w.drew _, hge, hcm, ?_, ?_⟩⟩, ⟨rfl, rfl, rfl, by simp, fun k hk _ => heap_alloc_old w.drew _ hk⟩, fun k hk => by cases hk; exact Nat.le_refl _⟩
  · simp only [Array.size_append, List.size_toArray, size_zeroCells, hzs, hlo, hl, ← Nat.add_mul]
    congr 1
    omega
  · simp only [Array.toList_append, List.append_assoc]
    rw [← List.append_assoc, ← hlen]
    exact List.take_left
end
end
section
open Go.RowKit
theorem cntW_add (ws : List Int) {a b d : Nat} (h1 : a ≤ b) (h2 : b ≤ d) : cntW ws a d = cntW ws a b + cntW ws b d := by
 unfold cntW
 rw [← List.countP_append]
 congr 1
 have e : List.range' a (b - a) ++ List.range' b (d - b) = List.range' a (d - a) := by
  have := List.range'_append (s := a) (m := b - a) (n := d - b) (step := 1)
  rw [show a + 1 * (b - a) = b by omega, show b - a + (d - b) = d - a by omega] at this
  exact this
 rw [e]
theorem sumC_cnt {c : SlC} {S lw n lc : Nat} (h : SlGd c S lw n lc) (a : Nat) : ∀ d, a + d ≤ lc → sumC c.cs a (a + d) = (cntW c.ws (a * S) ((a + d) * S) : Int)
  | 0, _ => by rw [Nat.add_zero, sumC_nil, cntW_none (Nat.le_refl _)]; rfl
  | d + 1, hd => by
   have ih := sumC_cnt h a d xo
   have e := cntW_add c.ws (a := a * S) (b := (a + d) * S) (d := (a + d + 1) * S) (Nat.mul_le_mul_right _ xo) (Nat.mul_le_mul_right _ xo)
   rw [← Nat.add_assoc, sumC_succ c.cs xo, ih, h.cnt (a + d) xo, e]
   push_cast
   rfl
theorem sumC_cnt2 {c : SlC} {S lw n lc : Nat} (h : SlGd c S lw n lc) {a b : Nat} (hab : a ≤ b) (hb : b ≤ lc) : sumC c.cs a b = (cntW c.ws (a * S) (b * S) : Int) := by
 have := sumC_cnt h a (b - a) xo
 rwa [show a + (b - a) = b by omega] at this
end
section
open Go.RowKit Go.Shelf
attribute [local go_sem] Oper.semAt_some
theorem gapLoad_err (w : World) (c : Cfg) (seg : Int) (wa ka va ca : Option Addr) (wc kc vc cc lw n lv lc : Nat) (laid : Int) (m : Nat) (la : Option Addr) (pl : Nat) (e : Int) (he : e ≠ 0)
    (CK : Hid (∀ W, Below w.heap.size w W → Calls Tryd.prog 18 #[.agg #[.int .u8 c.tag, .int .i64 c.most, .int .i64 c.seg, .int .i64 c.least, .int .i64 c.den, .int .i64 c.ll, .int .i64 c.rl, .int .i64 c.rh, .int .i64 c.lh], .agg #[.int .i64 seg, .slice wa lw wc, .slice ka n kc, .slice va lv vc, .slice ca lc cc, .int .u64 laid]] W (AnsB W (.int .i64 e)))) :
    Calls Tryd.prog 17 #[.agg #[.int .u8 c.tag, .int .i64 c.most, .int .i64 c.seg, .int .i64 c.least, .int .i64 c.den, .int .i64 c.ll, .int .i64 c.rl, .int .i64 c.rh, .int .i64 c.lh], .agg #[.int .i64 seg, .slice wa lw wc, .slice ka n kc, .slice va lv vc, .slice ca lc cc, .int .u64 laid], .slice la m pl] w (FreshSl2 w ⟨0, [], [], [], [], 0⟩ (.int .i64 e)) := by
 have ge : (e != 0) = true := by simpa using he
 clear he
 go_enter Tryd.func17, Tryd.ntmps17
 go_wp2_with fail
 refine (CK.out _ xbel).mono ?_
 rintro e w1 ⟨rfl, hb1⟩
 have hz_w1 := hb1.size
 try simp only [World.size_alloc, World.size_setCell] at hz_w1
 have hh := bc9 hb1 (au9 (au9 (al9 (b := w.heap.size) (by simp))))
 obtain ⟨c_t0, c_t1, c_t2, c_t3, c_t4, c_t5, c_t6, c_t7, c_t8⟩ := hh
 have z_t := blt hb1 (auz (auz (alz (b := w.heap.size) (by simp))))
 have hh := bc6 hb1 (au6 (al6 (b := w.heap.size + 1) (by simp)))
 obtain ⟨c_s0, c_s1, c_s2, c_s3, c_s4, c_s5⟩ := hh
 have z_s := blt hb1 (auz (alz (b := w.heap.size + 1) (by simp)))
 have hh := bc6 hb1 (al6 (b := w.heap.size + 1 + 1) (by simp))
 obtain ⟨c_r0, c_r1, c_r2, c_r3, c_r4, c_r5⟩ := hh
 have hh := bf6 hb1 (alz (b := w.heap.size + 1 + 1) (by simp)) (alf6 (b := w.heap.size + 1 + 1) (by simp))
 obtain ⟨f_r0, f_r1, f_r2, f_r3, f_r4, f_r5⟩ := hh
 have z_r := blt hb1 (alz (b := w.heap.size + 1 + 1) (by simp))
 have hB1 : Below w.heap.size w w1 := xbel
 have HB1 := hid hB1
 clear hb1 hB1
 go_wp2
 refine bodyPost_ret (results_ct rfl rfl (run_loadVar_many _ Tryd.underlying29 rfl xk (six_set c_r0 c_r1 c_r2 c_r3 c_r4 c_r5))) rfl ⟨_, _, _, _, rfl, World.ownsRow_nil _ _ _ _, World.ownsRow_nil _ _ _ _, World.ownsRow_nil _ _ _ _, World.ownsRow_nil _ _ _ _, ?_⟩
 exact (((((HB1.out.setCell (by dsimp only; omega) _).setCell (by dsimp only; omega) _).setCell (by dsimp only; omega) _).setCell (by dsimp only; omega) _).setCell (by dsimp only; omega) _).setCell (by dsimp only; omega) _
theorem gapLoad_many (w : World) (c : Cfg) (seg : Int) (wa ka va ca : Option Addr) (wc kc vc cc lw n lv lc : Nat) (laid : Int) (m : Nat) (la : Option Addr) (pl : Nat) (hm : c.most < m)
    (CK : Hid (∀ W, Below w.heap.size w W → Calls Tryd.prog 18 #[.agg #[.int .u8 c.tag, .int .i64 c.most, .int .i64 c.seg, .int .i64 c.least, .int .i64 c.den, .int .i64 c.ll, .int .i64 c.rl, .int .i64 c.rh, .int .i64 c.lh], .agg #[.int .i64 seg, .slice wa lw wc, .slice ka n kc, .slice va lv vc, .slice ca lc cc, .int .u64 laid]] W (AnsB W (.int .i64 0)))) :
    Calls Tryd.prog 17 #[.agg #[.int .u8 c.tag, .int .i64 c.most, .int .i64 c.seg, .int .i64 c.least, .int .i64 c.den, .int .i64 c.ll, .int .i64 c.rl, .int .i64 c.rh, .int .i64 c.lh], .agg #[.int .i64 seg, .slice wa lw wc, .slice ka n kc, .slice va lv vc, .slice ca lc cc, .int .u64 laid], .slice la m pl] w (FreshSl2 w ⟨0, [], [], [], [], 0⟩ (.int .i64 9)) := by
 have ge : decide (c.most < (m : Int)) = true := by simpa using hm
 clear hm
 go_enter Tryd.func17, Tryd.ntmps17
 go_wp2_with fail
 refine (CK.out _ xbel).mono ?_
 rintro e w1 ⟨rfl, hb1⟩
 have hz_w1 := hb1.size
 try simp only [World.size_alloc, World.size_setCell] at hz_w1
 have hh := bc9 hb1 (au9 (au9 (al9 (b := w.heap.size) (by simp))))
 obtain ⟨c_t0, c_t1, c_t2, c_t3, c_t4, c_t5, c_t6, c_t7, c_t8⟩ := hh
 have z_t := blt hb1 (auz (auz (alz (b := w.heap.size) (by simp))))
 have hh := bc6 hb1 (au6 (al6 (b := w.heap.size + 1) (by simp)))
 obtain ⟨c_s0, c_s1, c_s2, c_s3, c_s4, c_s5⟩ := hh
 have z_s := blt hb1 (auz (alz (b := w.heap.size + 1) (by simp)))
 have hh := bc6 hb1 (al6 (b := w.heap.size + 1 + 1) (by simp))
 obtain ⟨c_r0, c_r1, c_r2, c_r3, c_r4, c_r5⟩ := hh
 have hh := bf6 hb1 (alz (b := w.heap.size + 1 + 1) (by simp)) (alf6 (b := w.heap.size + 1 + 1) (by simp))
 obtain ⟨f_r0, f_r1, f_r2, f_r3, f_r4, f_r5⟩ := hh
 have z_r := blt hb1 (alz (b := w.heap.size + 1 + 1) (by simp))
 have hB1 : Below w.heap.size w w1 := xbel
 have HB1 := hid hB1
 clear hb1 hB1
 go_wp2
 refine bodyPost_ret (results_ct rfl rfl (run_loadVar_many _ Tryd.underlying29 rfl xk (six_set c_r0 c_r1 c_r2 c_r3 c_r4 c_r5))) rfl ⟨_, _, _, _, rfl, World.ownsRow_nil _ _ _ _, World.ownsRow_nil _ _ _ _, World.ownsRow_nil _ _ _ _, World.ownsRow_nil _ _ _ _, ?_⟩
 exact (((((HB1.out.setCell (by dsimp only; omega) _).setCell (by dsimp only; omega) _).setCell (by dsimp only; omega) _).setCell (by dsimp only; omega) _).setCell (by dsimp only; omega) _).setCell (by dsimp only; omega) _
theorem gapLoad_in (w : World) (c : Cfg) (seg : Int) (wa ka va ca : Option Addr) (wc kc vc cc lw n lv lc : Nat) (laid : Int) (size m : Nat) (la : Option Addr) (pl : Nat) (d : SlC) (hm : (m : Int) ≤ c.most)
    (CK : Hid (∀ W, Below w.heap.size w W → Calls Tryd.prog 18 #[.agg #[.int .u8 c.tag, .int .i64 c.most, .int .i64 c.seg, .int .i64 c.least, .int .i64 c.den, .int .i64 c.ll, .int .i64 c.rl, .int .i64 c.rh, .int .i64 c.lh], .agg #[.int .i64 seg, .slice wa lw wc, .slice ka n kc, .slice va lv vc, .slice ca lc cc, .int .u64 laid]] W (AnsB W (.int .i64 0))))
    (CP : Hid (∀ W, Below w.heap.size w W → Calls Tryd.prog 28 #[.agg #[.int .u8 c.tag, .int .i64 c.most, .int .i64 c.seg, .int .i64 c.least, .int .i64 c.den, .int .i64 c.ll, .int .i64 c.rl, .int .i64 c.rh, .int .i64 c.lh], .int .i64 m] W (AnsB W (.tuple #[.int .i64 size, .int .i64 0]))))
    (IN : Hid (∀ W, Below w.heap.size w W → Calls Tryd.prog 29 #[.agg #[.int .i64 seg, .slice wa lw wc, .slice ka n kc, .slice va lv vc, .slice ca lc cc, .int .u64 laid], .int .i64 size, .slice la m pl] W (FreshSl2 W d (.int .i64 0)))) :
    Calls Tryd.prog 17 #[.agg #[.int .u8 c.tag, .int .i64 c.most, .int .i64 c.seg, .int .i64 c.least, .int .i64 c.den, .int .i64 c.ll, .int .i64 c.rl, .int .i64 c.rh, .int .i64 c.lh], .agg #[.int .i64 seg, .slice wa lw wc, .slice ka n kc, .slice va lv vc, .slice ca lc cc, .int .u64 laid], .slice la m pl] w (FreshSl2 w d (.int .i64 0)) := by
 have ge : decide (c.most < (m : Int)) = false := by simp; omega
 clear hm
 go_enter Tryd.func17, Tryd.ntmps17
 go_wp2_with fail
 refine (CK.out _ xbel).mono ?_
 rintro e w1 ⟨rfl, hb1⟩
 have hz_w1 := hb1.size
 try simp only [World.size_alloc, World.size_setCell] at hz_w1
 have hh := bc9 hb1 (au9 (au9 (al9 (b := w.heap.size) (by simp))))
 obtain ⟨c_t0, c_t1, c_t2, c_t3, c_t4, c_t5, c_t6, c_t7, c_t8⟩ := hh
 have z_t := blt hb1 (auz (auz (alz (b := w.heap.size) (by simp))))
 have hh := bc6 hb1 (au6 (al6 (b := w.heap.size + 1) (by simp)))
 obtain ⟨c_s0, c_s1, c_s2, c_s3, c_s4, c_s5⟩ := hh
 have z_s := blt hb1 (auz (alz (b := w.heap.size + 1) (by simp)))
 have hh := bc6 hb1 (al6 (b := w.heap.size + 1 + 1) (by simp))
 obtain ⟨c_r0, c_r1, c_r2, c_r3, c_r4, c_r5⟩ := hh
 have hh := bf6 hb1 (alz (b := w.heap.size + 1 + 1) (by simp)) (alf6 (b := w.heap.size + 1 + 1) (by simp))
 obtain ⟨f_r0, f_r1, f_r2, f_r3, f_r4, f_r5⟩ := hh
 have z_r := blt hb1 (alz (b := w.heap.size + 1 + 1) (by simp))
 have hB1 : Below w.heap.size w w1 := xbel
 have HB1 := hid hB1
 clear hb1 hB1
 go_wp2_with fail
 refine (CP.out _ HB1.out).mono ?_
 rintro e w2 ⟨rfl, hb2⟩
 have hz_w2 := hb2.size
 try simp only [World.size_alloc, World.size_setCell] at hz_w2
 have hh := bc9 hb2 ⟨c_t0, c_t1, c_t2, c_t3, c_t4, c_t5, c_t6, c_t7, c_t8⟩
 clear c_t0 c_t1 c_t2 c_t3 c_t4 c_t5 c_t6 c_t7 c_t8
 obtain ⟨c_t0, c_t1, c_t2, c_t3, c_t4, c_t5, c_t6, c_t7, c_t8⟩ := hh
 replace z_t := blt hb2 z_t
 have hh := bc6 hb2 ⟨c_s0, c_s1, c_s2, c_s3, c_s4, c_s5⟩
 clear c_s0 c_s1 c_s2 c_s3 c_s4 c_s5
 obtain ⟨c_s0, c_s1, c_s2, c_s3, c_s4, c_s5⟩ := hh
 replace z_s := blt hb2 z_s
 have hh := bc6 hb2 ⟨c_r0, c_r1, c_r2, c_r3, c_r4, c_r5⟩
 clear c_r0 c_r1 c_r2 c_r3 c_r4 c_r5
 obtain ⟨c_r0, c_r1, c_r2, c_r3, c_r4, c_r5⟩ := hh
 have hh := bf6 hb2 z_r ⟨f_r0, f_r1, f_r2, f_r3, f_r4, f_r5⟩
 clear f_r0 f_r1 f_r2 f_r3 f_r4 f_r5
 obtain ⟨f_r0, f_r1, f_r2, f_r3, f_r4, f_r5⟩ := hh
 replace z_r := blt hb2 z_r
 have HB2 := xv hb2 HB1
 have hz22 := z_r
 clear hb2
 go_wp2_with fail
 refine (IN.out _ HB2.out).mono ?_
 rintro e w3 ⟨v1, v2, v3, v4, rfl, p1, p2, p3, p4, hb3⟩
 have hz_w3 := hb3.size
 try simp only [World.size_alloc, World.size_setCell] at hz_w3
 have hh := bc9 hb3 ⟨c_t0, c_t1, c_t2, c_t3, c_t4, c_t5, c_t6, c_t7, c_t8⟩
 clear c_t0 c_t1 c_t2 c_t3 c_t4 c_t5 c_t6 c_t7 c_t8
 obtain ⟨c_t0, c_t1, c_t2, c_t3, c_t4, c_t5, c_t6, c_t7, c_t8⟩ := hh
 replace z_t := blt hb3 z_t
 have hh := bc6 hb3 ⟨c_s0, c_s1, c_s2, c_s3, c_s4, c_s5⟩
 clear c_s0 c_s1 c_s2 c_s3 c_s4 c_s5
 obtain ⟨c_s0, c_s1, c_s2, c_s3, c_s4, c_s5⟩ := hh
 replace z_s := blt hb3 z_s
 have hh := bc6 hb3 ⟨c_r0, c_r1, c_r2, c_r3, c_r4, c_r5⟩
 clear c_r0 c_r1 c_r2 c_r3 c_r4 c_r5
 obtain ⟨c_r0, c_r1, c_r2, c_r3, c_r4, c_r5⟩ := hh
 have hh := bf6 hb3 z_r ⟨f_r0, f_r1, f_r2, f_r3, f_r4, f_r5⟩
 clear f_r0 f_r1 f_r2 f_r3 f_r4 f_r5
 obtain ⟨f_r0, f_r1, f_r2, f_r3, f_r4, f_r5⟩ := hh
 replace z_r := blt hb3 z_r
 have HB3 := xv hb3 HB2
 obtain ⟨a1, k1, rfl, -⟩ := owns_news p1
 obtain ⟨a2, k2, rfl, -⟩ := owns_news p2
 obtain ⟨a3, k3, rfl, -⟩ := owns_news p3
 obtain ⟨a4, k4, rfl, -⟩ := owns_news p4
 have HP1 := hid p1
 have HP2 := hid p2
 have HP3 := hid p3
 have HP4 := hid p4
 clear p1 p2 p3 p4
 clear hb3
 go_wp2
 have HQ : Hid (∀ q, q ≠ w.heap.size + 1 + 1 → ((((((w3.setCell ⟨w.heap.size + 1 + 1, 0, none⟩ (.int .i64 d.seg)).setCell ⟨w.heap.size + 1 + 1, 1, none⟩ (.slice a1 d.ws.length k1)).setCell ⟨w.heap.size + 1 + 1, 2, none⟩ (.slice a2 d.ks.length k2)).setCell ⟨w.heap.size + 1 + 1, 3, none⟩ (.slice a3 d.vs.length k3)).setCell ⟨w.heap.size + 1 + 1, 4, none⟩ (.slice a4 d.cs.length k4)).setCell ⟨w.heap.size + 1 + 1, 5, none⟩ (.int .u64 d.laid)).heap[q]? = w3.heap[q]?) := hid fun q hq => by
  rw [heap_setCell_ne _ _ _ hq, heap_setCell_ne _ _ _ hq, heap_setCell_ne _ _ _ hq, heap_setCell_ne _ _ _ hq, heap_setCell_ne _ _ _ hq, heap_setCell_ne _ _ _ hq]
 refine bodyPost_ret (results_ct rfl rfl (run_loadVar_many _ Tryd.underlying29 rfl xk (six_set c_r0 c_r1 c_r2 c_r3 c_r4 c_r5))) rfl ⟨_, _, _, _, rfl, ?_, ?_, ?_, ?_, ?_⟩
 · exact owns_base (owns_heap HP1.out fun j hj => HQ.out _ (by have := (HP1.out.lt j hj).1; omega)) xo
 · exact owns_base (owns_heap HP2.out fun j hj => HQ.out _ (by have := (HP2.out.lt j hj).1; omega)) xo
 · exact owns_base (owns_heap HP3.out fun j hj => HQ.out _ (by have := (HP3.out.lt j hj).1; omega)) xo
 · exact owns_base (owns_heap HP4.out fun j hj => HQ.out _ (by have := (HP4.out.lt j hj).1; omega)) xo
 · exact (((((HB3.out.setCell (by dsimp only; omega) _).setCell (by dsimp only; omega) _).setCell (by dsimp only; omega) _).setCell (by dsimp only; omega) _).setCell (by dsimp only; omega) _).setCell (by dsimp only; omega) _
end
section
open Go.RowKit Go.Shelf Go.Sort
end
section
open Go.RowKit Go.Shelf Go.Sort
end
section
open Go.RowKit
theorem GapN.nums {c : Cfg} {s : SlC} {a H : Nat} (k : GapN c s a H) : 4 ≤ 2 ^ a ∧ 2 ^ a ≤ 64 ∧ 1 ≤ s.cs.length ∧ s.cs.length ≤ 65536 ∧ s.ks.length ≤ 65536 := by
 have ha4 : 2 ^ 2 ≤ 2 ^ a := Nat.pow_le_pow_right xo k.cap.a2
 have ha6 : 2 ^ a ≤ 2 ^ 6 := Nat.pow_le_pow_right xo k.cap.a6
 have hH0 := Nat.two_pow_pos H
 have hnc := k.nc
 have := k.cap.big
 have h9 : 1 * 2 ^ H ≤ 2 ^ a * 2 ^ H := Nat.mul_le_mul_right _ xo
 have := k.nk
 omega
end
end Go.Proofs.YtookgoidlnlckaaDoor
