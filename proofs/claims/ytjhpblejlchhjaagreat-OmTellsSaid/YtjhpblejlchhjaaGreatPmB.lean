/- Merged: SetCs, PmTw, PmTwR, PmNw. -/
import Derived.Test.YtjhpblejlchhjaaGreatMLS
import Derived.Test.YtjhpblejlchhjaaGreatPmA
import Derived.Test.YtjhpblejlchhjaaGreatSlPut
import Derived.Test.YtjhpblejlchhjaaGreatInvFc
import Derived.Test.YtjhpblejlchhjaaGreatInvL
import Derived.Test.YtjhpblejlchhjaaGreatIdxFacts
import Derived.Test.YtjhpblejlchhjaaGreatBitFits
import Derived.Test.YtjhpblejlchhjaaGreatE4F
import Derived.Test.YtjhpblejlchhjaaGreatConfA
import Derived.Test.YtjhpblejlchhjaaGreatRef09A
import Derived.Test.YtjhpblejlchhjaaGreatSprM
namespace Go.Proofs.YtjhpblejlchhjaaGreat
set_option maxRecDepth 100000
set_option maxHeartbeats 4000000
set_option linter.unusedVariables false
set_option linter.unusedSimpArgs false
section
open Go.RowKit

def setCs : World → Nat → Nat → List Value → World
  | W, _, _, [] => W
  | W, b, i, v :: l => setCs (W.setCell ⟨b, i, none⟩ v) b (i + 1) l
theorem setCs_other {b : Nat} {p : Addr} (hp : p.block ≠ b) : ∀ (l : List Value) (W : World) (i : Nat), (setCs W b i l).cell? p = W.cell? p
  | [], W, i => rfl
  | v :: l, W, i => by
    rw [setCs, setCs_other hp l]
    exact World.cell?_setCell_other _ _ _ _ (by intro e; exact hp (by rw [← e]))
theorem setCs_low {b k : Nat} : ∀ (l : List Value) (W : World) (i : Nat), k < i → (setCs W b i l).cell? ⟨b, k, none⟩ = W.cell? ⟨b, k, none⟩
  | [], W, i, _ => rfl
  | v :: l, W, i, h => by
    rw [setCs, setCs_low l _ _ (by omega)]
    exact World.cell?_setCell_other _ _ _ _ (by intro e; simp at e <;> omega)
theorem setCs_at {b : Nat} : ∀ (l : List Value) (W : World) (i : Nat), (∀ j, j < l.length → ∃ u, W.cell? ⟨b, i + j, none⟩ = some u) → ∀ j v, l[j]? = some v → (setCs W b i l).cell? ⟨b, i + j, none⟩ = some v
  | [], W, i, _, j, v, h => by simp at h
  | x :: l, W, i, hc, 0, v, h => by
    obtain ⟨u, hu⟩ := hc 0 (by simp)
    rw [setCs, Nat.add_zero, setCs_low l _ _ (by omega)]
    simp at h
    rw [← h]
    exact World.cell?_setCell_same _ _ _ hu
  | x :: l, W, i, hc, j + 1, v, h => by
    rw [setCs, show i + (j + 1) = (i + 1) + j by omega]
    refine setCs_at l _ _ (fun k hk => ?_) j v (by simpa using h)
    obtain ⟨u, hu⟩ := hc (k + 1) (by simpa using hk)
    refine ⟨u, ?_⟩
    rw [World.cell?_setCell_other _ _ _ _ (by intro e; simp at e <;> omega)]
    rw [show i + 1 + k = i + (k + 1) by omega]
    exact hu
theorem setCs_all {b : Nat} {l : List Value} {W : World} (hc : ∀ j, j < l.length → ∃ u, W.cell? ⟨b, j, none⟩ = some u) : ∀ j v, l[j]? = some v → (setCs W b 0 l).cell? ⟨b, j, none⟩ = some v := fun j v h => by
  have := setCs_at (b := b) l W 0 (fun j hj => by rw [Nat.zero_add]; exact hc j hj) j v h
  rwa [Nat.zero_add] at this
theorem setCs_below {B b : Nat} {w : World} (hb : B ≤ b) : ∀ (l : List Value) (W : World) (i : Nat), Below B w W → Below B w (setCs W b i l)
  | [], W, i, h => h
  | v :: l, W, i, h => setCs_below hb l _ _ (h.setCell (by exact hb) v)
theorem setCs_heap {b k : Nat} (hk : k ≠ b) : ∀ (l : List Value) (W : World) (i : Nat), (setCs W b i l).heap[k]? = W.heap[k]?
  | [], W, i => rfl
  | v :: l, W, i => by rw [setCs, setCs_heap hk l]; exact heap_setCell_ne _ _ _ hk
theorem setCs_owns {B b : Nat} {e : TypeId} {s n : Nat} {v : Value} {xs : List Value} (hb : b < B) {W : World} {i : Nat} (l : List Value) (h : W.ownsRow B e s v n xs) : (setCs W b i l).ownsRow B e s v n xs :=
  owns_heap h fun k hk => setCs_heap (by have := (h.lt k hk).1; omega) l W i
theorem six_some {W : World} {b : Nat} {v0 v1 v2 v3 v4 v5 : Value} (h : W.cell? ⟨b, 0, none⟩ = some v0 ∧ W.cell? ⟨b, 1, none⟩ = some v1 ∧ W.cell? ⟨b, 2, none⟩ = some v2 ∧ W.cell? ⟨b, 3, none⟩ = some v3 ∧ W.cell? ⟨b, 4, none⟩ = some v4 ∧ W.cell? ⟨b, 5, none⟩ = some v5) : ∀ j, j < 6 → ∃ u, W.cell? ⟨b, j, none⟩ = some u := by
  obtain ⟨h0, h1, h2, h3, h4, h5⟩ := h
  intro j hj
  match j, hj with
  | 0, _ => exact ⟨_, h0⟩
  | 1, _ => exact ⟨_, h1⟩
  | 2, _ => exact ⟨_, h2⟩
  | 3, _ => exact ⟨_, h3⟩
  | 4, _ => exact ⟨_, h4⟩
  | 5, _ => exact ⟨_, h5⟩
end

section
open Go.RowKit

end

section
open Go.RowKit Go.Shelf
attribute [local go_sem] Oper.semAt_some

end

section
open Go.RowKit

theorem least_nums {c : Cfg} (h : cfMay c = true) : ∃ S M : Nat, c.seg = S ∧ c.least = ((S * M : Nat) : Int) ∧ 4 ≤ S ∧ S ≤ 64 ∧ 1 ≤ M ∧ S * M ≤ 65536 ∧ pwB (S : Int) = true ∧ pwB (M : Int) = true := by
  have f := cfHead_facts (cfMay_head h)
  obtain ⟨s1, s2, a, ea⟩ := powB_nat f.2.2.2.2.1
  obtain ⟨l1, l2, b, eb⟩ := powB_nat f.2.2.2.2.2.1
  have hab : a ≤ b := (Nat.pow_le_pow_iff_right (a := 2) (by omega)).1 (by omega)
  have e : 2 ^ b = 2 ^ a * 2 ^ (b - a) := by rw [← Nat.pow_add, show a + (b - a) = b by omega]
  exact ⟨2 ^ a, 2 ^ (b - a), ea, by rw [eb, e], by omega, by omega, Nat.two_pow_pos _, by rw [← e]; omega, pwB_two _, pwB_two _⟩
def emptyC (c : Cfg) : SlC := emptyL c.seg.toNat (c.least.toNat / c.seg.toNat) 0
def newC (c : Cfg) : SlC := if cfMay c = true then emptyC c else nilC
def newF (c : Cfg) : Cfg := if cfMay c = true then c else ⟨0, 0, 0, 0, 0, 0, 0, 0, 0⟩
theorem emptyC_eq {c : Cfg} {S M : Nat} (h1 : c.seg = S) (h2 : c.least = ((S * M : Nat) : Int)) (h4 : 4 ≤ S) : emptyC c = emptyL S M 0 := by
  rw [emptyC, h1, h2, Int.toNat_natCast, Int.toNat_natCast, Nat.mul_div_cancel_left _ (by omega)]
theorem newSl_ok {c : Cfg} (h : cfMay c = true) (w : World) : Calls Tryz.prog 47 #[.int .i64 c.seg, .int .i64 c.least] w (FreshSl2 w (emptyC c) (.int .i64 0)) := by
  obtain ⟨S, M, h1, h2, h4, h6, hM, hm, pS, pM⟩ := least_nums h
  obtain ⟨q1, q2, q3, q4⟩ := new_nums (M := M) h4 hm
  rw [emptyC_eq h1 h2 h4, h1, h2]
  have ge := emptyL_gd h4 h6 hM hm 0
  have gm := gd_may ge pS pM rfl
  refine slNew_core w S (S * M) ((S * M + 63) / 64) M h4 hm h6 q1 q2 (by omega) q4 (Lib.hid fun W' => ?_)
  have := fits_ok (S : Int) ((S * M : Nat) : Int) W'
  rwa [gd_fit ge gm] at this
theorem emptySl_ok {c : Cfg} (h : cfMay c = true) (w : World) : Calls Tryz.prog 49 #[.int .i64 c.seg, .int .i64 c.least] w (FreshSl w (emptyC c)) := by
  obtain ⟨S, M, h1, h2, h4, h6, hM, hm, pS, pM⟩ := least_nums h
  obtain ⟨q1, q2, q3, q4⟩ := new_nums (M := M) h4 hm
  rw [emptyC_eq h1 h2 h4, h1, h2]
  exact Empty04_core w S (S * M) ((S * M + 63) / 64) M h4 hm h6 q1 q2 (by omega) q4
theorem gapNew_err (c : Cfg) (e : Int) (he : e ≠ 0) (w : World) (CK : Hid (∀ W, Calls Tryz.prog 46 #[.agg #[.int .u8 c.tag, .int .i64 c.most, .int .i64 c.seg, .int .i64 c.least, .int .i64 c.den, .int .i64 c.ll, .int .i64 c.rl, .int .i64 c.rh, .int .i64 c.lh]] W (AnsB W (.int .i64 e)))) :
    Calls Tryz.prog 26 #[.agg #[.int .u8 c.tag, .int .i64 c.most, .int .i64 c.seg, .int .i64 c.least, .int .i64 c.den, .int .i64 c.ll, .int .i64 c.rl, .int .i64 c.rh, .int .i64 c.lh]] w (FreshSl2 w nilC (.int .i64 e)) := by
  have ge : (e != 0) = true := by simpa using he
  clear he
  go_enter Tryz.func26, Tryz.ntmps26
  go_wp2_with fail
  refine (CK.out _).mono ?_
  rintro e w1 ⟨rfl, hb1⟩
  have hz_w1 := hb1.size
  try simp only [World.size_alloc, World.size_setCell] at hz_w1
  have hh := bc9 hb1 (au9 (al9 (b := w.heap.size) (by simp)))
  obtain ⟨c_t0, c_t1, c_t2, c_t3, c_t4, c_t5, c_t6, c_t7, c_t8⟩ := hh
  have z_t := blt hb1 (auz (alz (b := w.heap.size) (by simp)))
  have hh := bc6 hb1 (al6 (b := w.heap.size + 1) (by simp))
  obtain ⟨c_r0, c_r1, c_r2, c_r3, c_r4, c_r5⟩ := hh
  have hh := bf6 hb1 (alz (b := w.heap.size + 1) (by simp)) (alf6 (b := w.heap.size + 1) (by simp))
  obtain ⟨f_r0, f_r1, f_r2, f_r3, f_r4, f_r5⟩ := hh
  have z_r := blt hb1 (alz (b := w.heap.size + 1) (by simp))
  have hB1 : Below w.heap.size w w1 := by (exact xbel)
  go_wp2
  have HC := Lib.hid (six_some ⟨c_r0, c_r1, c_r2, c_r3, c_r4, c_r5⟩)
  refine bodyPost_ret (results_ct rfl rfl (run_loadVar_many _ Tryz.underlying29 rfl (by kernel_rfl) (setCs_all (W := w1) (b := w.heap.size + 1) (l := [.int .i64 0, .slice none 0 0, .slice none 0 0, .slice none 0 0, .slice none 0 0, .int .u64 0]) HC.out))) rfl ⟨_, _, _, _, rfl, ?_, ?_, ?_, ?_, ?_⟩
  · exact World.ownsRow_nil _ _ _ _
  · exact World.ownsRow_nil _ _ _ _
  · exact World.ownsRow_nil _ _ _ _
  · exact World.ownsRow_nil _ _ _ _
  · exact setCs_below (b := w.heap.size + 1) (by omega) [.int .i64 0, .slice none 0 0, .slice none 0 0, .slice none 0 0, .slice none 0 0, .int .u64 0] _ 0 hB1
theorem gapNew_in (c : Cfg) (d : SlC) (w : World) (CK : Hid (∀ W, Calls Tryz.prog 46 #[.agg #[.int .u8 c.tag, .int .i64 c.most, .int .i64 c.seg, .int .i64 c.least, .int .i64 c.den, .int .i64 c.ll, .int .i64 c.rl, .int .i64 c.rh, .int .i64 c.lh]] W (AnsB W (.int .i64 0)))) (NW : Hid (∀ W, Calls Tryz.prog 47 #[.int .i64 c.seg, .int .i64 c.least] W (FreshSl2 W d (.int .i64 0)))) :
    Calls Tryz.prog 26 #[.agg #[.int .u8 c.tag, .int .i64 c.most, .int .i64 c.seg, .int .i64 c.least, .int .i64 c.den, .int .i64 c.ll, .int .i64 c.rl, .int .i64 c.rh, .int .i64 c.lh]] w (FreshSl2 w d (.int .i64 0)) := by
  go_enter Tryz.func26, Tryz.ntmps26
  go_wp2_with fail
  refine (CK.out _).mono ?_
  rintro e w1 ⟨rfl, hb1⟩
  have hz_w1 := hb1.size
  try simp only [World.size_alloc, World.size_setCell] at hz_w1
  have hh := bc9 hb1 (au9 (al9 (b := w.heap.size) (by simp)))
  obtain ⟨c_t0, c_t1, c_t2, c_t3, c_t4, c_t5, c_t6, c_t7, c_t8⟩ := hh
  have z_t := blt hb1 (auz (alz (b := w.heap.size) (by simp)))
  have hh := bc6 hb1 (al6 (b := w.heap.size + 1) (by simp))
  obtain ⟨c_r0, c_r1, c_r2, c_r3, c_r4, c_r5⟩ := hh
  have hh := bf6 hb1 (alz (b := w.heap.size + 1) (by simp)) (alf6 (b := w.heap.size + 1) (by simp))
  obtain ⟨f_r0, f_r1, f_r2, f_r3, f_r4, f_r5⟩ := hh
  have z_r := blt hb1 (alz (b := w.heap.size + 1) (by simp))
  have hB1 : Below w.heap.size w w1 := by (exact xbel)
  have hz1 := z_r
  go_wp2_with fail
  refine (NW.out _).mono ?_
  rintro e w2 ⟨v1, v2, v3, v4, rfl, p1, p2, p3, p4, hb2⟩
  have hz_w2 := hb2.size
  try simp only [World.size_alloc, World.size_setCell] at hz_w2
  have hh := bc9 hb2 ⟨c_t0, c_t1, c_t2, c_t3, c_t4, c_t5, c_t6, c_t7, c_t8⟩
  clear c_t0 c_t1 c_t2 c_t3 c_t4 c_t5 c_t6 c_t7 c_t8
  obtain ⟨c_t0, c_t1, c_t2, c_t3, c_t4, c_t5, c_t6, c_t7, c_t8⟩ := hh
  replace z_t := blt hb2 z_t
  have hh := bc6 hb2 ⟨c_r0, c_r1, c_r2, c_r3, c_r4, c_r5⟩
  clear c_r0 c_r1 c_r2 c_r3 c_r4 c_r5
  obtain ⟨c_r0, c_r1, c_r2, c_r3, c_r4, c_r5⟩ := hh
  have hh := bf6 hb2 z_r ⟨f_r0, f_r1, f_r2, f_r3, f_r4, f_r5⟩
  clear f_r0 f_r1 f_r2 f_r3 f_r4 f_r5
  obtain ⟨f_r0, f_r1, f_r2, f_r3, f_r4, f_r5⟩ := hh
  replace z_r := blt hb2 z_r
  have hB2 := below_via hb2 hB1 hB1.size
  obtain ⟨a1, k1, rfl, -, -, -, -, -⟩ := row_of_owns p1
  obtain ⟨a2, k2, rfl, -, -, -, -, -⟩ := row_of_owns p2
  obtain ⟨a3, k3, rfl, -, -, -, -, -⟩ := row_of_owns p3
  obtain ⟨a4, k4, rfl, -, -, -, -, -⟩ := row_of_owns p4
  have HP := Lib.hid (And.intro p1 (And.intro p2 (And.intro p3 p4)))
  clear p1 p2 p3 p4
  go_wp2
  have HC := Lib.hid (six_some ⟨c_r0, c_r1, c_r2, c_r3, c_r4, c_r5⟩)
  refine bodyPost_ret (results_ct rfl rfl (run_loadVar_many _ Tryz.underlying29 rfl (by kernel_rfl) (setCs_all (W := w2) (b := w.heap.size + 1) (l := [.int .i64 d.seg, .slice a1 d.ws.length k1, .slice a2 d.ks.length k2, .slice a3 d.vs.length k3, .slice a4 d.cs.length k4, .int .u64 d.laid]) HC.out))) rfl ⟨_, _, _, _, rfl, ?_, ?_, ?_, ?_, ?_⟩
  · exact owns_base (setCs_owns (b := w.heap.size + 1) (i := 0) hz1 [.int .i64 d.seg, .slice a1 d.ws.length k1, .slice a2 d.ks.length k2, .slice a3 d.vs.length k3, .slice a4 d.cs.length k4, .int .u64 d.laid] HP.out.1) (by omega)
  · exact owns_base (setCs_owns (b := w.heap.size + 1) (i := 0) hz1 [.int .i64 d.seg, .slice a1 d.ws.length k1, .slice a2 d.ks.length k2, .slice a3 d.vs.length k3, .slice a4 d.cs.length k4, .int .u64 d.laid] HP.out.2.1) (by omega)
  · exact owns_base (setCs_owns (b := w.heap.size + 1) (i := 0) hz1 [.int .i64 d.seg, .slice a1 d.ws.length k1, .slice a2 d.ks.length k2, .slice a3 d.vs.length k3, .slice a4 d.cs.length k4, .int .u64 d.laid] HP.out.2.2.1) (by omega)
  · exact owns_base (setCs_owns (b := w.heap.size + 1) (i := 0) hz1 [.int .i64 d.seg, .slice a1 d.ws.length k1, .slice a2 d.ks.length k2, .slice a3 d.vs.length k3, .slice a4 d.cs.length k4, .int .u64 d.laid] HP.out.2.2.2) (by omega)
  · exact setCs_below (b := w.heap.size + 1) (by omega) [.int .i64 d.seg, .slice a1 d.ws.length k1, .slice a2 d.ks.length k2, .slice a3 d.vs.length k3, .slice a4 d.cs.length k4, .int .u64 d.laid] _ 0 hB2
theorem gapNew_ok (c : Cfg) (w : World) : Calls Tryz.prog 26 #[.agg #[.int .u8 c.tag, .int .i64 c.most, .int .i64 c.seg, .int .i64 c.least, .int .i64 c.den, .int .i64 c.ll, .int .i64 c.rl, .int .i64 c.rh, .int .i64 c.lh]] w (FreshSl2 w (newC c) (.int .i64 (cfE c))) := by
  cases h : cfMay c with
  | true =>
    have e : cfE c = 0 := cfE_ok h
    rw [newC, if_pos h, e]
    exact gapNew_in c (emptyC c) w (Lib.hid fun W => e ▸ Check5_ok c W) (Lib.hid fun W => newSl_ok h W)
  | false =>
    have e : cfE c = 50 := by simp [cfE, h]
    rw [newC, if_neg (by simp [h]), e]
    exact gapNew_err c 50 (by decide) w (Lib.hid fun W => e ▸ Check5_ok c W)
theorem Check05_ok (c : Cfg) (w : World) : Calls Tryz.prog 27 #[.agg #[.int .u8 c.tag, .int .i64 c.most, .int .i64 c.seg, .int .i64 c.least, .int .i64 c.den, .int .i64 c.ll, .int .i64 c.rl, .int .i64 c.rh, .int .i64 c.lh]] w (AnsB w (.int .i64 (cfE c))) := by
  have MY := Lib.hid (May05_ok c)
  unfold cfE
  cases h : cfMay c with
  | true =>
    rw [h] at MY
    rw [if_pos rfl]
    clear h
    go_enter Tryz.func27, Tryz.ntmps27
    go_wp2_with fail
    refine (MY.out _).mono ?_
    rintro e w1 ⟨rfl, hb1⟩
    have hz_w1 := hb1.size
    try simp only [World.size_alloc, World.size_setCell] at hz_w1
    have hh := bc9 hb1 (al9 (b := w.heap.size) (by simp))
    obtain ⟨c_t0, c_t1, c_t2, c_t3, c_t4, c_t5, c_t6, c_t7, c_t8⟩ := hh
    have z_t := blt hb1 (alz (b := w.heap.size) (by simp))
    have hB1 : Below w.heap.size w w1 := by (exact xbel)
    go_wp2
    go_ret
    exact ⟨rfl, hB1⟩
  | false =>
    rw [h] at MY
    rw [if_neg (by decide)]
    clear h
    go_enter Tryz.func27, Tryz.ntmps27
    go_wp2_with fail
    refine (MY.out _).mono ?_
    rintro e w1 ⟨rfl, hb1⟩
    have hz_w1 := hb1.size
    try simp only [World.size_alloc, World.size_setCell] at hz_w1
    have hh := bc9 hb1 (al9 (b := w.heap.size) (by simp))
    obtain ⟨c_t0, c_t1, c_t2, c_t3, c_t4, c_t5, c_t6, c_t7, c_t8⟩ := hh
    have z_t := blt hb1 (alz (b := w.heap.size) (by simp))
    have hB1 : Below w.heap.size w w1 := by (exact xbel)
    go_wp2
    go_ret
    exact ⟨rfl, hB1⟩
end
end Go.Proofs.YtjhpblejlchhjaaGreat
