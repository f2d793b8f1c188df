/- Merged: FracW, ConfW. -/
import Derived.Test.YtookgoidlnlckaaDoorGapCostP13
import Derived.Test.YtookgoidlnlckaaDoorGapCostP6
import Derived.Test.YtookgoidlnlckaaDoorGapCostP2
import Derived.Test.YtookgoidlnlckaaDoorGapCostP5
import Derived.Test.YtookgoidlnlckaaDoorGapCostP14
import Derived.Test.YtookgoidlnlckaaDoorGapCostP8
namespace Go.Proofs.YtookgoidlnlckaaDoor
set_option maxRecDepth 100000
set_option maxHeartbeats 40000000
set_option linter.unusedVariables false
set_option linter.unusedSimpArgs false
section
open Go.RowKit
theorem row_alloc (k : IntKind) (w : World) (xs : List Int) (t : TypeId) : IsRow k (w.alloc (.cells (xs.map (Value.int k)).toArray t)) (some ⟨w.heap.size, 0, none⟩) xs := by
 intro i hi
 refine ⟨w.heap.size, 0, rfl, by simp, fun j hj => ?_⟩
 rw [World.cell?_alloc_at _ _ _ _ rfl, Nat.zero_add]
 simp [List.getD_eq_getElem?_getD, hj]
theorem small_ok (xs : List Int) (ca : Nat) (hl : xs.length ≤ 100) (p : Option Addr) (w : World) (hw : IsRow .i64 w p xs) (hs : ∀ i, -67108864 < xs.getD i 0 ∧ xs.getD i 0 < 67108864) :
    Calls Tryd.prog 79 #[.slice p xs.length ca] w fun e w' => e = .returned (.bool true) ∧ w = w' := by
 have HW := hid hw
 have HS := hid hs
 obtain ⟨m, hm⟩ : ∃ m, xs.length = m := ⟨_, rfl⟩
 have HM := hid hm
 rw [hm] at hl ⊢
 clear hw hs hm
 go_enter Tryd.func79, Tryd.ntmps79
 go_wp2
 go_loopg [7] m (fun gk iv wr => ∃ i : Nat, i + gk = m ∧ iv = .int .i64 i ∧ wr = w)
 case atStart => exact ⟨0, by omega, rfl, rfl⟩
 case round =>
  obtain ⟨i, hi, rfl, rfl⟩ := hrel
  by_cases hlt : i < m
  · obtain ⟨b, off, x, rfl, hx, hc, -⟩ := HW.out.get (i := i) (by rw [HM.out]; exact hlt)
    have hb := HS.out i
    rw [hx.out] at hb
    obtain ⟨hb1, hb2⟩ := hb
    clear hx
    go_wp2
    go_roundg (gk - 1)
    case measure => omega
    case rel => exact ⟨i + 1, by omega, by go_num, rfl⟩
  · go_wp2
    go_ret
    exact ⟨rfl, rfl⟩
def IsBools (w : World) (b : Nat) (l : List Bool) : Prop := ∀ i, i < l.length → w.cell? ⟨b, i, none⟩ = some (.bool (l.getD i false))
theorem bools_alloc (w : World) (l : List Bool) (t : TypeId) : IsBools (w.alloc (.cells (l.map Value.bool).toArray t)) w.heap.size l := by
 intro i hi
 rw [World.cell?_alloc_at _ _ _ _ rfl]
 simp [List.getD_eq_getElem?_getD, hi]
theorem all_ok (l : List Bool) (ca b : Nat) (hl : l.length ≤ 100) (w : World) (hw : IsBools w b l) :
    Calls Tryd.prog 64 #[.slice (some ⟨b, 0, none⟩) l.length ca] w fun e w' => e = .returned (.bool (l.all id)) ∧ w = w' := by
 have HW := hid hw
 obtain ⟨m, hm⟩ : ∃ m, l.length = m := ⟨_, rfl⟩
 have HM := hid hm
 obtain ⟨z, hz⟩ : ∃ z, l.all id = z := ⟨_, rfl⟩
 have HZ := hid hz
 rw [hm] at hl ⊢
 rw [hz]
 clear hw hm hz
 go_enter Tryd.func64, Tryd.ntmps64
 go_wp2
 go_loopg [7] m (fun gk iv wr => ∃ i : Nat, i + gk = m ∧ iv = .int .i64 i ∧ wr = w ∧ Hid (∀ j, j < i → l.getD j false = true))
 case atStart => exact ⟨0, by omega, rfl, rfl, hid fun j hj => by omega⟩
 case round =>
  obtain ⟨i, hi, rfl, rfl, HF⟩ := hrel
  by_cases hlt : i < m
  · have hc := HW.out i (by rw [HM.out]; exact hlt)
    cases hb : l.getD i false with
    | true =>
     rw [hb] at hc
     have HB := hid hb
     clear hb
     go_wp2
     go_roundg (gk - 1)
     case measure => omega
     case rel =>
      refine ⟨i + 1, by omega, by go_num, rfl, hid fun j hj => ?_⟩
      by_cases e : j = i
      · rw [e]; exact HB.out
      · exact HF.out j xo
    | false =>
     rw [hb] at hc
     have hzf : z = false := by
      rw [← HZ.out, List.all_eq_false]
      have hlm : i < l.length := by rw [HM.out]; exact hlt
      refine ⟨l[i], List.getElem_mem _, ?_⟩
      rw [List.getD_eq_getElem?_getD, List.getElem?_eq_getElem hlm, Option.getD_some] at hb
      simp [hb]
     subst hzf
     clear hb
     go_wp2
     go_ret
     exact ⟨rfl, rfl⟩
  · have hzt : z = true := by
      rw [← HZ.out, List.all_eq_true]
      intro x hx
      obtain ⟨j, hj, rfl⟩ := List.mem_iff_getElem.1 hx
      have := HF.out j (by rw [HM.out] at hj; omega)
      rw [List.getD_eq_getElem?_getD, List.getElem?_eq_getElem hj, Option.getD_some] at this
      exact this
    subst hzt
    go_wp2
    go_ret
    exact ⟨rfl, rfl⟩
theorem cpower_ok (n lo hi : Int) (hh : hi ≤ 9223372036854775807) (w : World) :
    Calls Tryd.prog 65 #[.int .i64 n, .int .i64 lo, .int .i64 hi] w fun e w' => e = .returned (.bool (powB n lo hi)) ∧ w = w' := by
 by_cases c1 : lo ≤ n
 · by_cases c2 : n ≤ hi
   · have e : powB n lo hi = pwB n := by simp [powB, c1, c2]
     rw [e]
     have PW := hid (fun w => Power_ok n xo w)
     generalize pwB n = b at *
     clear e
     go_enter Tryd.func65, Tryd.ntmps65
     go_wp2_with (go_at_call 77; refine (PW.out _).mono ?_; rintro e w' ⟨rfl, rfl⟩)
     go_ret
     exact ⟨rfl, rfl⟩
   · have e : powB n lo hi = false := by simp [powB, c2]
     rw [e]
     clear e
     go_enter Tryd.func65, Tryd.ntmps65
     go_wp2
     go_ret
     exact ⟨rfl, rfl⟩
 · have e : powB n lo hi = false := by simp [powB, c1]
   rw [e]
   clear e
   go_enter Tryd.func65, Tryd.ntmps65
   go_wp2
   go_ret
   exact ⟨rfl, rfl⟩
def SmI (n : Int) : Prop := -67108864 < n ∧ n < 67108864
theorem sm4 {a b c d : Int} (ha : SmI a) (hb : SmI b) (hc : SmI c) (hd : SmI d) : ∀ i, -67108864 < [a, b, c, d].getD i 0 ∧ [a, b, c, d].getD i 0 < 67108864
  | 0 => ha
  | 1 => hb
  | 2 => hc
  | 3 => hd
  | _ + 4 => by simp
theorem Between_ok (a b c d : Int) (ha : SmI a) (hb : SmI b) (hc : SmI c) (hd : SmI d) (h1 : 1 ≤ d) (h2 : 0 ≤ c) (h3 : c ≤ d) (r : Int) (hr : a * d + (b - a) * c = r) (w1 : IntKind.i64.wrap (a * d) = a * d) (w2 : IntKind.i64.wrap ((b - a) * c) = (b - a) * c) (w3 : IntKind.i64.wrap (a * d + (b - a) * c) = a * d + (b - a) * c) (w4 : IntKind.i64.wrap (b - a) = b - a) (w : World) :
    Calls Tryd.prog 69 #[.int .i64 a, .int .i64 b, .int .i64 c, .int .i64 d] w (AnsB w (.tuple #[.int .i64 r, .int .i64 0])) := by
 have SM := hid (fun W hw => small_ok [a, b, c, d] 4 (by simp) (some ⟨w.heap.size, 0, none⟩) W hw (sm4 ha hb hc hd))
 have HR := hid hr
 clear ha hb hc hd hr
 go_enter Tryd.func69, Tryd.ntmps69
 go_wp2_with fail
 refine (SM.out _ (row_alloc .i64 w [a, b, c, d] _)).mono ?_
 rintro e w' ⟨rfl, rfl⟩
 go_wp2
 go_ret2
 exact ⟨by rw [← HR.out]; rfl, (Below.refl _ _).alloc (Nat.le_refl _) _⟩
theorem Cross_ok (a b c d : Int) (ha : SmI a) (hb : SmI b) (hc : SmI c) (hd : SmI d) (w : World) :
    Calls Tryd.prog 70 #[.int .i64 a, .int .i64 b, .int .i64 c, .int .i64 d] w (AnsB w (.tuple #[.int .i64 (crossV a b c d), .int .i64 0])) := by
 have ba : a.natAbs < 67108864 := by have := ha.1; have := ha.2; omega
 have bb : b.natAbs < 67108864 := by have := hb.1; have := hb.2; omega
 have bc : c.natAbs < 67108864 := by have := hc.1; have := hc.2; omega
 have bd : d.natAbs < 67108864 := by have := hd.1; have := hd.2; omega
 obtain ⟨re, im, hm, hi⟩ := cross_bits (rep_of a xo) (rep_of b xo) (rep_of c xo) (rep_of d xo) ba bb bc bd
 have ho := order_zero hi
 rw [show (2 : Nat) ^ 63 = 9223372036854775808 by decide] at hm
 have hop := fun t w => run_complex_mul (P := Tryd.prog) w t _ _ _ _ re im hm
 have hng : ∀ x : Nat, Op.unary .neg (.float .f64 x) = pure (.float .f64 (x ^^^ 9223372036854775808)) := fun _ => rfl
 have SM := hid (fun W hw => small_ok [a, b, c, d] 4 (by simp) (some ⟨w.heap.size, 0, none⟩) W hw (sm4 ha hb hc hd))
 unfold crossV
 generalize b * c - a * d = z at *
 clear ha hb hc hd ba bb bc bd hm hi
 have hgt : ∀ t, binOp .gtr t (.float .f64 im) (.float .f64 0) = pure (.bool (decide (0 < z))) := fun t => by
  rw [binOp_float_cmp_gtr, show FloatKind.f64.format.order im 0 = some (compare z 0) from ho]
  congr 2
  rcases Int.lt_trichotomy z 0 with h | h | h
  · rw [show compare z 0 = .lt by simp [compare, compareOfLessAndEq, h]]; simp; omega
  · subst h; rfl
  · rw [show compare z 0 = .gt by simp [compare, compareOfLessAndEq, show ¬ z < 0 by omega, show ¬ z = 0 by omega]]; simp; omega
 have hlt : ∀ t, binOp .lss t (.float .f64 im) (.float .f64 0) = pure (.bool (decide (z < 0))) := fun t => by
  rw [binOp_float_cmp_lss, show FloatKind.f64.format.order im 0 = some (compare z 0) from ho]
  congr 2
  rcases Int.lt_trichotomy z 0 with h | h | h
  · rw [show compare z 0 = .lt by simp [compare, compareOfLessAndEq, h]]; simp; omega
  · subst h; rfl
  · rw [show compare z 0 = .gt by simp [compare, compareOfLessAndEq, show ¬ z < 0 by omega, show ¬ z = 0 by omega]]; simp; omega
 clear ho
 by_cases c1 : 0 < z
 · rw [if_pos c1]
   go_enter Tryd.func70, Tryd.ntmps70
   go_wp2_with fail
   refine (SM.out _ (row_alloc .i64 w [a, b, c, d] _)).mono ?_
   rintro e w' ⟨rfl, rfl⟩
   go_wp2_with (first | (simp only [hop]) | (simp only [hng]) | (simp only [hgt]) | (simp only [hlt]))
   go_ret2
   exact ⟨rfl, (Below.refl _ _).alloc (Nat.le_refl _) _⟩
 · rw [if_neg c1]
   by_cases c2 : z < 0
   · rw [if_pos c2]
     go_enter Tryd.func70, Tryd.ntmps70
     go_wp2_with fail
     refine (SM.out _ (row_alloc .i64 w [a, b, c, d] _)).mono ?_
     rintro e w' ⟨rfl, rfl⟩
     go_wp2_with (first | (simp only [hop]) | (simp only [hng]) | (simp only [hgt]) | (simp only [hlt]))
     go_ret2
     exact ⟨rfl, (Below.refl _ _).alloc (Nat.le_refl _) _⟩
   · rw [if_neg c2]
     go_enter Tryd.func70, Tryd.ntmps70
     go_wp2_with fail
     refine (SM.out _ (row_alloc .i64 w [a, b, c, d] _)).mono ?_
     rintro e w' ⟨rfl, rfl⟩
     go_wp2_with (first | (simp only [hop]) | (simp only [hng]) | (simp only [hgt]) | (simp only [hlt]))
     go_ret2
     exact ⟨rfl, (Below.refl _ _).alloc (Nat.le_refl _) _⟩
end
section
open Go.RowKit Go.Shelf
attribute [local go_sem] Oper.semAt_some
theorem mul_bd {a b A B : Int} (h0 : 0 ≤ a) (h1 : a ≤ A) (h2 : 0 ≤ b) (h3 : b ≤ B) : 0 ≤ a * b ∧ a * b ≤ A * B :=
  ⟨Int.mul_nonneg h0 h2, Int.mul_le_mul h1 h3 h2 (Int.le_trans h0 h1)⟩
theorem cfHead_num {c : Cfg} (h : cfHead c = true) : 1 ≤ c.tag ∧ c.tag ≤ 3 ∧ 1 ≤ c.most ∧ c.most ≤ 16384 ∧ 4 ≤ c.seg ∧ c.seg ≤ 64 ∧ c.seg ≤ c.least ∧ c.least ≤ 256 ∧ 1 ≤ c.den ∧ c.den ≤ 64 ∧ 0 ≤ c.ll ∧ c.ll < c.rl ∧ c.rl < c.rh ∧ c.rh < c.lh ∧ c.lh ≤ c.den ∧ c.den ≤ 2 * c.rh ∧ 8 * c.rl ≤ c.den ∧ 2 * c.den ≤ c.rl * c.least ∧ c.rl * c.least ≤ 64 * 256 ∧ 0 ≤ c.rl * c.least := by
 obtain ⟨h1, h2, h3, h4, h5, h6, h7, h8, h9, h10, h11, h12, h13, h14, h15, h16⟩ := cfHead_facts h
 have s := powB_iff.1 h5
 have l := powB_iff.1 h6
 have q := mul_bd (show 0 ≤ c.rl by omega) (show c.rl ≤ 64 by omega) (show 0 ≤ c.least by omega) l.2.1
 exact ⟨h1, h2, h3, h4, s.1, s.2.1, l.1, l.2.1, h7, h8, h9, h10, h11, h12, h13, h14, h15, h16, q.2, q.1⟩
theorem taks_bd {c : Cfg} (h : cfHead c = true) {n : Int} (h0 : 0 ≤ n) (h1 : n ≤ 16384) : 1 ≤ taks c n ∧ taks c n ≤ 65536 ∧ c.least ≤ taks c n := by
 have f := cfHead_num h
 have a := takF_bd (c := c) (n := n) 20 c.least xo
 have b := takF_le (c := c) (n := n) xo xo h0 20 c.least 65536 xo xo
 unfold taks
 exact ⟨by omega, b, a.1⟩
theorem htC_bd {c : Cfg} (h : 1 ≤ c.seg) {size : Int} (h0 : 0 ≤ size) (h1 : size ≤ 65536) : htC c size ≤ 16 := by
 have hq0 : 0 ≤ size / c.seg := Int.ediv_nonneg h0 xo
 have hq1 : size / c.seg ≤ 65536 := Int.le_trans (Int.ediv_le_self _ h0) h1
 unfold htC
 generalize size / c.seg = q at *
 by_cases hz : q.toNat = 0
 · rw [hz]; decide
 · have : q.toNat.log2 < 17 := (Nat.log2_lt hz).2 xo
   omega
theorem wdC_bd {c : Cfg} {a H h : Nat} (hs : c.seg = ((2 ^ a : Nat) : Int)) (hb : 2 ^ a * 2 ^ H ≤ 65536) (hh : h ≤ H) : 0 ≤ wdC c h ∧ wdC c h ≤ 65536 := by
 have e : wdC c h = ((2 ^ a * 2 ^ h : Nat) : Int) := by rw [wdC, hs]; push_cast; rfl
 have : 2 ^ a * 2 ^ h ≤ 2 ^ a * 2 ^ H := Nat.mul_le_mul_left _ (Nat.pow_le_pow_right xo hh)
 rw [e]
 omega
theorem tak_turn {c : Cfg} {n size T X Y : Int} {k : Nat} (hX : n * c.den = X) (hY : c.rh * size = Y) (h0 : 0 ≤ n) (h1 : n ≤ 16384) (h6 : 1 ≤ c.rh) (h8 : c.den ≤ 2 * c.rh) (hK : takF c n k size = T ∧ X ≤ size * 2 ^ k) (z0 : 0 ≤ size) (hY2 : size ≤ Y) :
    (¬ Y < X → size = T) ∧ (Y < X → size ≤ 32768 ∧ ∃ j, k = j + 1 ∧ takF c n j (2 * size) = T ∧ X ≤ 2 * size * 2 ^ j) := by
 obtain ⟨k1, k2⟩ := hK
 constructor
 · intro hlt
   rw [takF_done (by rw [hX, hY]; exact hlt)] at k1
   exact k1
 · intro hlt
   constructor
   · have h9 : n * c.den ≤ n * (2 * c.rh) := Int.mul_le_mul_of_nonneg_left h8 h0
     have h10 : n * (2 * c.rh) = c.rh * (2 * n) := by rw [Int.mul_comm n, Int.mul_assoc, Int.mul_left_comm]
     have := Int.lt_of_mul_lt_mul_left (show c.rh * size < c.rh * (2 * n) by omega) xo
     omega
   · cases k with
     | zero =>
      simp at k2
      omega
     | succ j =>
      rw [takF, if_pos (by rw [hX, hY]; exact hlt)] at k1
      refine ⟨j, rfl, k1, ?_⟩
      rw [Int.pow_succ] at k2
      have : 2 * size * 2 ^ j = size * (2 ^ j * 2) := by rw [Int.mul_comm 2 size, Int.mul_assoc, Int.mul_comm 2]
      omega
theorem tak_start {c : Cfg} {n : Int} (h0 : 0 ≤ n) (h1 : n ≤ 16384) (h2 : 1 ≤ c.least) (h4 : 1 ≤ c.den) (h5 : c.den ≤ 64) : n * c.den ≤ c.least * 2 ^ 20 ∧ 0 ≤ n * c.den ∧ n * c.den ≤ 16384 * 64 := by
 have m := mul_bd h0 h1 (show 0 ≤ c.den by omega) h5
 have := Int.mul_le_mul_of_nonneg_right h2 (show (0 : Int) ≤ 2 ^ 20 by decide)
 have e : (2 : Int) ^ 20 = 1048576 := by decide
 rw [e] at this ⊢
 exact ⟨by omega, m⟩
theorem takes_ok (c : Cfg) (hc : cfHead c = true) (n : Int) (h0 : 0 ≤ n) (h1 : n ≤ 16384) (w : World) :
    Calls Tryd.prog 54 #[.agg #[.int .u8 c.tag, .int .i64 c.most, .int .i64 c.seg, .int .i64 c.least, .int .i64 c.den, .int .i64 c.ll, .int .i64 c.rl, .int .i64 c.rh, .int .i64 c.lh], .int .i64 n] w (AnsB w (.int .i64 (taks c n))) := by
 obtain ⟨d0, d1, d2, d3, d4, d5, d6, d7, d8, d9, d10, d11, d12, d13, d14, d15, d16, d17⟩ := cfHead_num hc
 obtain ⟨s1, s2, s3⟩ := tak_start (c := c) h0 h1 xo d8 d9
 have HQ := hid (And.intro h0 (And.intro h1 (And.intro (show 1 ≤ c.rh by omega) d15)))
 unfold taks
 obtain ⟨T, hT⟩ : ∃ T, takF c n 20 c.least = T := ⟨_, rfl⟩
 rw [hT]
 have HT := hid hT
 obtain ⟨X, hX⟩ : ∃ X, n * c.den = X := ⟨_, rfl⟩
 rw [hX] at s1 s2 s3
 have HX := hid hX
 have H1 := hid s1
 have hl1 : 1 ≤ c.least := xo
 have hrb : 1 ≤ c.rh ∧ c.rh ≤ 64 := xo
 clear hT hX s1 hc d17
 obtain ⟨hr1, hr2⟩ := hrb
 have CR := hid (fun size (z0 : SmI size) W => Cross_ok n size c.rh c.den ⟨by omega, by omega⟩ z0 ⟨by omega, by omega⟩ ⟨by omega, by omega⟩ W)
 generalize hrh : c.rh = rh at *
 generalize hden : c.den = den at *
 generalize hle : c.least = le at *
 have HE := hid (And.intro hrh (And.intro hden hle))
 clear hrh hden hle
 go_enter Tryd.func54, Tryd.ntmps54
 go_wp2
 refine wp_scope_loop 0 (fun g a' w' => ∃ size : Int, (∃ u : Nat → Value, a' = { tmps := #[.agg #[.int .u8 c.tag, .int .i64 c.most, .int .i64 c.seg, .int .i64 le, .int .i64 den, .int .i64 c.ll, .int .i64 c.rl, .int .i64 rh, .int .i64 c.lh], .int .i64 n, .pointer (some ⟨w.heap.size, 0, none⟩), u 3, u 4, .int .i64 size, u 6, u 7, u 8, u 9, u 10, u 11, u 12, u 13, u 14, u 15, u 16, u 17, u 18, u 19, u 20, u 21, u 22, u 23, u 24], defers := [] }) ∧ Hid (Below w.heap.size w w') ∧ w.heap.size < w'.heap.size ∧ w'.cell? ⟨w.heap.size, 7, none⟩ = some (.int .i64 rh) ∧ w'.cell? ⟨w.heap.size, 4, none⟩ = some (.int .i64 den) ∧ 0 ≤ size ∧ size ≤ 65536 ∧ Hid (takF c n g size = T ∧ X ≤ size * 2 ^ g)) rfl ?_ ?_
 · rintro g a wo ⟨size, ⟨u, rfl⟩, HB, hz, c7, c4, z0, z1, HK⟩ H hH
   obtain ⟨Y, hY⟩ : ∃ Y, rh * size = Y := ⟨_, rfl⟩
   have hY2 : size ≤ Y := by
    rw [← hY]
    have a2 := Int.mul_le_mul_of_nonneg_right hr1 z0
    omega
   have tt := tak_turn (by rw [HE.out.2.1]; exact HX.out) (by rw [HE.out.1]; exact hY) HQ.out.1 HQ.out.2.1 (by have := HQ.out.2.2.1; have := HE.out; omega) (by have := HQ.out.2.2.2; have := HE.out; omega) HK.out z0 hY2
   have cv : crossV n size rh den = if Y < X then 1 else if X < Y then -1 else 0 := by
    unfold crossV
    have e1 : size * rh = Y := by rw [Int.mul_comm]; exact hY
    have e2 : n * den = X := HX.out
    rw [e1, e2]
    split <;> split <;> (try split) <;> first | rfl | omega
   have C1 := hid (CR.out size ⟨by omega, by omega⟩)
   rw [cv] at C1
   clear CR cv hY hY2 HK
   have hzw := HB.out.size
   by_cases hlt : Y < X
   · rw [if_pos hlt] at C1
     obtain ⟨hs, j, rfl, hj⟩ := tt.2 hlt
     have HJ := hid hj
     clear tt hj
     go_wp2_with fail
     refine (C1.out _).mono ?_
     rintro e w1 ⟨rfl, hb1⟩
     have b7 := (hb1.cell (p := ⟨w.heap.size, 7, none⟩) hz).trans c7
     have b4 := (hb1.cell (p := ⟨w.heap.size, 4, none⟩) hz).trans c4
     have hz1 := hb1.size
     have HB1 := hid (below_via hb1 HB.out hzw)
     clear hb1 c7 c4
     go_wp2
     refine wp_goto ?_
     refine show (0 = 0 ∧ H _ _) from ⟨rfl, hH j _ _ xo ⟨2 * size, frame_mk _ _ _ ?_, HB1, by omega, b7, b4, by omega, by omega, HJ⟩⟩
     rw [show 2 * size = size * 2 by omega]
     rfl
   · rw [if_neg hlt] at C1
     have hfin := tt.1 hlt
     subst hfin
     clear tt
     obtain ⟨v, hv⟩ : ∃ v : Int, (if X < Y then (-1 : Int) else 0) = v := ⟨_, rfl⟩
     have hv0 : v ≤ 0 := by rw [← hv]; split <;> omega
     rw [hv] at C1
     clear hv
     go_wp2_with fail
     refine (C1.out _).mono ?_
     rintro e w1 ⟨rfl, hb1⟩
     have HB1 := hid (below_via hb1 HB.out hzw)
     clear hb1
     go_wp2
     simp only [Exit.jump]
     go_ret
     exact ⟨rfl, HB1.out⟩
 · intro H hH hpass
   go_wp2
   refine wp_label ?_
   go_step
   go_step
   refine hpass 20 _ _ ?_
   refine ⟨le, frame_mk _ _ _ rfl, hid ((Below.refl _ _).alloc (Nat.le_refl _) _), by simp, by rw [World.cell?_alloc_at _ _ _ _ rfl]; rfl, by rw [World.cell?_alloc_at _ _ _ _ rfl]; rfl, by omega, by omega, hid ⟨HT.out, H1.out⟩⟩
theorem height_ok (c : Cfg) (size : Int) (h0 : c.seg ≤ size) (h1 : size ≤ 65536) (h2 : 1 ≤ c.seg) (w : World) :
    Calls Tryd.prog 66 #[.agg #[.int .u8 c.tag, .int .i64 c.most, .int .i64 c.seg, .int .i64 c.least, .int .i64 c.den, .int .i64 c.ll, .int .i64 c.rl, .int .i64 c.rh, .int .i64 c.lh], .int .i64 size] w (AnsB w (.int .i64 (htC c size : Nat))) := by
 have hq0 : 1 ≤ size / c.seg := by
  have := Int.ediv_le_ediv (c := c.seg) xo h0
  rwa [Int.ediv_self xo] at this
 have hq1 : size / c.seg ≤ 65536 := Int.le_trans (Int.ediv_le_self _ xo) h1
 have hq2 : size.tdiv c.seg = size / c.seg := Int.tdiv_eq_ediv_of_nonneg xo
 have hs0 : (c.seg == 0) = false := by simp; omega
 unfold htC
 generalize size / c.seg = q at *
 obtain ⟨m, rfl⟩ := Int.eq_ofNat_of_zero_le (show 0 ≤ q by omega)
 rw [Int.toNat_natCast]
 have LG := hid (fun w => Down_ok m m rfl xo xo w)
 generalize m.log2 = z at *
 have hwm : IntKind.i64.wrap (m : Int) = (m : Int) := IntWalk.i64_in _ xo
 go_enter Tryd.func66, Tryd.ntmps66
 go_wp2_with (go_at_call 78; refine (LG.out _).mono ?_; rintro e w' ⟨rfl, rfl⟩)
 go_ret
 exact ⟨rfl, (Below.refl _ _).alloc (Nat.le_refl _) _⟩
end
end Go.Proofs.YtookgoidlnlckaaDoor
