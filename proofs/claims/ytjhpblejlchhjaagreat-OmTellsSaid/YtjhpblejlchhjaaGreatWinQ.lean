/- Merged: WinW, QuietT. -/
import Derived.Test.YtjhpblejlchhjaaGreatFracA
import Derived.Test.YtjhpblejlchhjaaGreatPrsAll
import Derived.Laws.BitsAllLaws
import Derived.Test.YtjhpblejlchhjaaGreatMLS
import Derived.Lib.QuietBelow
namespace Go.Proofs.YtjhpblejlchhjaaGreat
set_option maxRecDepth 100000
set_option maxHeartbeats 4000000
set_option linter.unusedVariables false
set_option linter.unusedSimpArgs false
section
open Go.RowKit

theorem nat_and_pow {n e : Nat} (hn : n < 9223372036854775808) (he : e ≤ 62) : n &&& (18446744073709551615 - (2 ^ e - 1)) = n / 2 ^ e * 2 ^ e := by
  have h : 2 ^ e < 2 ^ 64 := Nat.pow_lt_pow_right (by omega) (by omega)
  have hp := Nat.two_pow_pos e
  rw [show 18446744073709551615 - (2 ^ e - 1) = 2 ^ 64 - ((2 ^ e - 1) + 1) by omega]
  apply Nat.eq_of_testBit_eq
  intro i
  rw [Nat.testBit_and, Nat.testBit_two_pow_sub_succ (by omega), Nat.testBit_two_pow_sub_one]
  have h2 := cutLo_bit (x := (n : Int)) (by omega) e i
  have h3 : cutLo (n : Int) e = ((n / 2 ^ e * 2 ^ e : Nat) : Int) := by rw [cutLo]; push_cast; rfl
  rw [h3, bitI_nat, bitI_nat] at h2
  rw [h2]
  by_cases hi : i < 64
  · by_cases hie : i < e
    · have : ¬ e ≤ i := by omega
      simp [hi, hie, this]
    · have : e ≤ i := by omega
      simp [hi, hie, this]
  · have : n.testBit i = false := by
      have := bitI_high (x := (n : Int)) (by omega) (k := i) (by omega)
      rwa [bitI_nat] at this
    simp [this]
theorem i64_andNot_pow {n e : Nat} (hn : n < 9223372036854775808) (he : e ≤ 62) : bits .andNot .i64 (n : Int) ((2 ^ e - 1 : Nat) : Int) = ((n / 2 ^ e * 2 ^ e : Nat) : Int) := by
  have h : 2 ^ e < 2 ^ 64 := Nat.pow_lt_pow_right (by omega) (by omega)
  have hd := Nat.div_mul_le_self n (2 ^ e)
  show IntKind.i64.wrap ((BitVec.ofInt 64 (n : Int) &&& ~~~BitVec.ofInt 64 ((2 ^ e - 1 : Nat) : Int)).toNat : Int) = _
  rw [BitVec.toNat_and, BitVec.toNat_not, ofInt_u64 n (by omega), ofInt_u64 (2 ^ e - 1) (by omega), show 2 ^ 64 - 1 - (2 ^ e - 1) = 18446744073709551615 - (2 ^ e - 1) by omega, nat_and_pow hn he, IntWalk.i64_in _ (by omega)]
structure WinC (seg size : Int) (a H : Nat) : Prop where
  seg : seg = ((2 ^ a : Nat) : Int)
  all : size = ((2 ^ a * 2 ^ H : Nat) : Int)
  a2 : 2 ≤ a
  a6 : a ≤ 6
  big : 2 ^ a * 2 ^ H ≤ 65536
theorem WinC.nums {seg size : Int} {a H : Nat} (k : WinC seg size a H) : 4 ≤ seg ∧ seg ≤ 64 ∧ seg ≤ size ∧ size ≤ 65536 ∧ pwB seg = true ∧ pwB size = true ∧ size / seg = ((2 ^ H : Nat) : Int) ∧ H ≤ 14 ∧ 2 ^ H ≤ 16384 := by
  obtain ⟨k1, k2, k3, k4, k5⟩ := k
  have h4 : 2 ^ 2 ≤ 2 ^ a := Nat.pow_le_pow_right (by omega) k3
  have h6 : 2 ^ a ≤ 2 ^ 6 := Nat.pow_le_pow_right (by omega) k4
  have h7 : 2 ^ a * 1 ≤ 2 ^ a * 2 ^ H := Nat.mul_le_mul_left _ (Nat.two_pow_pos H)
  have h8 : 2 ^ 2 * 2 ^ H ≤ 2 ^ a * 2 ^ H := Nat.mul_le_mul_right _ h4
  have hH : H ≤ 14 := by
    rcases Nat.lt_or_ge 14 H with q | q
    · have := Nat.pow_lt_pow_right (a := 2) (by omega) q; omega
    · exact q
  refine ⟨by omega, by omega, by omega, by omega, by rw [k1]; exact pwB_two a, by rw [k2, ← Nat.pow_add]; exact pwB_two _, ?_, hH, by omega⟩
  rw [k1, k2, Int.natCast_mul, Int.mul_ediv_cancel_left _ (by have := Nat.two_pow_pos a; omega)]
theorem winHigh_ok (seg size : Int) (a H : Nat) (k : WinC seg size a H) (w : World) :
    Calls Tryz.prog 105 #[.int .i64 seg, .int .i64 size] w fun e w' => e = .returned (.tuple #[.int .i64 H, .int .i64 0]) ∧ w = w' := by
  obtain ⟨n1, n2, n3, n4, n5, n6, n7, n8, n9⟩ := k.nums
  have P1 := Lib.hid (fun w => Power_ok seg (by omega) w)
  have P2 := Lib.hid (fun w => Power_ok size (by omega) w)
  rw [n5] at P1
  rw [n6] at P2
  have hp := Nat.two_pow_pos H
  have DN := Lib.hid (fun w => Down_ok (2 ^ H) (size / seg) n7 (by omega) (by omega) w)
  rw [Nat.log2_two_pow] at DN
  have hq2 : size.tdiv seg = size / seg := Int.tdiv_eq_ediv_of_nonneg (by omega)
  have hs0 : (seg == 0) = false := by simp; omega
  have hqb : size / seg ≤ 65536 := by omega
  have hq0 : 0 ≤ size / seg := by omega
  generalize size / seg = q at *
  have hwq : IntKind.i64.wrap q = q := IntWalk.i64_in _ (by omega)
  clear k n5 n6 n7 hp
  go_enter Tryz.func105, Tryz.ntmps105
  go_wp2_with (first
    | (go_at_call 96; first | (with_reducible refine (P1.out _).mono ?_; rintro e w' ⟨rfl, rfl⟩) | (with_reducible refine (P2.out _).mono ?_; rintro e w' ⟨rfl, rfl⟩))
    | (go_at_call 97; refine (DN.out _).mono ?_; rintro e w' ⟨rfl, rfl⟩))
  go_ret2
  exact ⟨rfl, rfl⟩
theorem wasked_ok (seg size : Int) (a H : Nat) (k : WinC seg size a H) (p : Option Addr) (ca m : Nat) (xs : List Int) (hm : xs.length = m) (hm2 : m ≤ 1000) (hx : ∀ i, i < m → 0 ≤ xs.getD i 0 ∧ xs.getD i 0 < size) (w : World) (hw : IsRow .i64 w p xs) :
    Calls Tryz.prog 86 #[.int .i64 seg, .int .i64 size, .slice p m ca] w fun e w' => e = .returned (.tuple #[.int .i64 H, .int .i64 0]) ∧ w = w' := by
  have WH := Lib.hid (fun w => winHigh_ok seg size a H k w)
  have HW := Lib.hid hw
  have HX := Lib.hid hx
  have HM := Lib.hid hm
  clear k hw hx hm
  go_enter Tryz.func86, Tryz.ntmps86
  go_wp2_with (go_at_call 105; refine (WH.out _).mono ?_; rintro e w' ⟨rfl, rfl⟩)
  go_loopg [23] m (fun gk iv wr => ∃ i : Nat, i + gk = m ∧ iv = .int .i64 i ∧ wr = w)
  case atStart => exact ⟨0, by omega, rfl, rfl⟩
  case round =>
    obtain ⟨i, hi, rfl, rfl⟩ := hrel
    by_cases hlt : i < m
    · obtain ⟨b, off, x, rfl, hxx, hc, -⟩ := HW.out.get (i := i) (by rw [HM.out]; exact hlt)
      have hb := HX.out i hlt
      rw [hxx.out] at hb
      obtain ⟨hb1, hb2⟩ := hb
      clear hxx
      go_wp2
      go_roundg (gk - 1)
      case measure => omega
      case rel => exact ⟨i + 1, by omega, by go_num, rfl⟩
    · go_wp2
      go_ret2
      exact ⟨rfl, rfl⟩
theorem two_at_b {w : World} {b : Nat} {x y : Value} (h0 : w.cell? ⟨b, 0, none⟩ = some x) (h1 : w.cell? ⟨b, 1, none⟩ = some y) : ∀ j v, [x, y][j]? = some v → w.cell? ⟨b, j, none⟩ = some v := by
  intro j v hj
  match j, hj with
  | 0, hj => cases hj; exact h0
  | 1, hj => cases hj; exact h1
theorem around_ok (W at_ f : Int) (hb : bits .andNot .i64 at_ (W - 1) = f) (h0 : 1 ≤ W) (h1 : W ≤ 65536) (h2 : 0 ≤ f) (h3 : f ≤ 65536) (w : World) :
    Calls Tryz.prog 87 #[.int .i64 W, .int .i64 at_] w (AnsB w (.agg #[.int .i64 f, .int .i64 (f + W)])) := by
  have w1 : IntKind.i64.wrap (W - 1) = W - 1 := IntWalk.i64_in _ (by omega)
  have w2 : IntKind.i64.wrap (f + W) = f + W := IntWalk.i64_in _ (by omega)
  go_enter Tryz.func87, Tryz.ntmps87
  go_wp2
  refine bodyPost_ret (results_c rfl rfl (run_loadVar_many [.int .i64 f, .int .i64 (f + W)] Tryz.underlying108 rfl (by kernel_rfl) (two_at_b ?_ ?_))) rfl ⟨rfl, ?_⟩
  · (exact xcn)
  · (exact xcn)
  · (exact xbel)
theorem info_w2 : (Tryz.prog.info? 108).map (fun i => (i.zero, i.size, i.bytes)) = some (some (.agg #[.int .i64 0, .int .i64 0]), 2, 16) := by kernel_rfl
def rowL (W m : Nat) : List (Int × Int) := (List.range m).map fun i => (((i * W : Nat) : Int), ((i * W : Nat) : Int) + W)
theorem rowL_length (W m : Nat) : (rowL W m).length = m := by simp [rowL]
theorem rowL_succ (W m : Nat) : rowL W (m + 1) = rowL W m ++ [(((m * W : Nat) : Int), ((m * W : Nat) : Int) + W)] := by
  simp [rowL, List.range_succ]
theorem rowL_get {W m i : Nat} (h : i < m) : (rowL W m).getD i (0, 0) = (((i * W : Nat) : Int), ((i * W : Nat) : Int) + W) := by
  rw [List.getD_eq_getElem?_getD, rowL, List.getElem?_map, List.getElem?_range h]
  rfl
def FreshW2 (w : World) (l : List (Int × Int)) (x : Value) (e : Ending) (w' : World) : Prop :=
  ∃ v, e = .returned (.tuple #[v, x]) ∧ w'.ownsRow w.heap.size 108 2 v l.length ((prI l).map (Value.int .i64)) ∧ Below w.heap.size w w'
theorem Row_ok (seg size : Int) (a H h : Nat) (k : WinC seg size a H) (hh : h ≤ H) (w : World) :
    Calls Tryz.prog 58 #[.int .i64 seg, .int .i64 size, .int .i64 h] w (FreshW2 w (rowL (2 ^ a * 2 ^ h) (2 ^ (H - h))) (.int .i64 0)) := by
  obtain ⟨n1, n2, n3, n4, n5, n6, n7, n8, n9⟩ := k.nums
  have AK := Lib.hid (fun w => wasked_ok seg size a H k none 0 0 [] rfl (by omega) (fun i hi => by omega) w (fun i hi => by simp at hi))
  have hWW : 2 ^ a * 2 ^ h = 2 ^ (a + h) := (Nat.pow_add ..).symm
  have hall : size = ((2 ^ (a + h) * 2 ^ (H - h) : Nat) : Int) := by rw [k.all, Nat.pow_add, Nat.mul_assoc, ← Nat.pow_add 2 h (H - h), Nat.add_sub_cancel' hh]
  have hshl : seg * 2 ^ h = ((2 ^ (a + h) : Nat) : Int) := by rw [k.seg, Nat.pow_add]; push_cast; rfl
  have hah : a + h ≤ 62 := by have := k.a6; omega
  have AR := Lib.hid (fun (i : Nat) (hi : i * 2 ^ (a + h) < 65536) w => (around_ok ((2 ^ (a + h) : Nat) : Int) ((i * 2 ^ (a + h) : Nat) : Int) ((i * 2 ^ (a + h) : Nat) : Int) (by
      have := i64_andNot_pow (n := i * 2 ^ (a + h)) (e := a + h) (by omega) hah
      rw [Nat.mul_div_cancel _ (Nat.two_pow_pos _)] at this
      rw [← this]
      congr 1
      have := Nat.two_pow_pos (a + h)
      omega) (by have := Nat.two_pow_pos (a + h); omega) (by
      have : 2 ^ (a + h) * 1 ≤ 2 ^ (a + h) * 2 ^ (H - h) := Nat.mul_le_mul_left _ (Nat.two_pow_pos _)
      omega) (by omega) (by omega) w))
  rw [hWW]
  have hW0 := Nat.two_pow_pos (a + h)
  have hm0 := Nat.two_pow_pos (H - h)
  generalize 2 ^ (a + h) = W at *
  generalize 2 ^ (H - h) = m at *
  have hWb : W ≤ 65536 := by
    have : W * 1 ≤ W * m := Nat.mul_le_mul_left _ hm0
    omega
  have hmb : m ≤ 65536 := by
    have : 1 * m ≤ W * m := Nat.mul_le_mul_right _ hW0
    omega
  have hwr : IntKind.i64.wrap (seg * 2 ^ h) = (W : Int) := by rw [hshl]; exact IntWalk.i64_in _ (by omega)
  have hzb : ((W * m : Nat) : Int) ≤ 65536 := by omega
  have HALL := Lib.hid hall
  have hHh : decide (H < h) = false := by simp; omega
  clear k hWW hshl n5 n6 n7 hall
  go_enter Tryz.func58, Tryz.ntmps58
  go_wp2_with (go_at_call 86; refine (AK.out _).mono ?_; rintro e w' ⟨rfl, rfl⟩)
  go_loopg [6, 9] m (fun gk v iv wr => ∃ i : Nat, i + gk = m ∧ iv = .int .i64 ((i * W : Nat) : Int) ∧ Hid (wr.ownsRow w.heap.size 108 2 v i ((prI (rowL W i)).map (Value.int .i64))) ∧ Hid (Below w.heap.size w wr) ∧ w.heap.size ≤ wr.heap.size)
  case atStart => exact ⟨0, by omega, by simp, Lib.hid (World.ownsRow_nil _ _ _ _), Lib.hid (Below.refl _ _), Nat.le_refl _⟩
  case round =>
    obtain ⟨i, hi, rfl, HO, HB, hz⟩ := hrel
    obtain ⟨ao, co, rfl, -⟩ := owns_news HO.out
    by_cases hlt : i < m
    · have hiw : (i + 1) * W ≤ W * m := by rw [Nat.mul_comm W]; exact Nat.mul_le_mul_right _ hlt
      have hs := rowL_succ W i
      have hl1 : (prI (rowL W i)).length = i * 2 := by rw [prI_length, rowL_length]
      rw [Nat.succ_mul] at hiw
      have A1 := Lib.hid (fun w => AR.out i (by omega) w)
      have HSU := Lib.hid hs
      have HAL := HALL.out
      have hgo : decide (((i * W : Nat) : Int) < size) = true := by simp; rw [HAL]; omega
      have hnx : IntKind.i64.wrap (((i * W : Nat) : Int) + W) = (((i + 1) * W : Nat) : Int) := by rw [Nat.succ_mul]; push_cast; exact IntWalk.i64_in _ (by push_cast at hiw; omega)
      clear hs AR HAL
      obtain ⟨f, hf⟩ : ∃ f : Int, ((i * W : Nat) : Int) = f := ⟨_, rfl⟩
      rw [hf] at A1 HSU hgo hnx ⊢
      clear hf hiw
      go_wp2_with fail
      refine (A1.out _).mono ?_
      rintro e w1 ⟨rfl, hb1⟩
      have hz1 := hb1.size
      have HB1 := Lib.hid (below_via hb1 HB.out HB.out.size)
      have HO1 := Lib.hid (owns_below HO.out hb1)
      clear hb1
      go_wp2_with (at_builtin; refine wpl_append (.tmp 34) (.tmp 40) 105 108 (.agg #[.int .i64 0, .int .i64 0]) 2 16 Tryz.underlying105 info_w2 rfl (by decide) (by decide) w.heap.size _ i _ (some ⟨w1.heap.size, 0, none⟩) 1 1 [.int .i64 f, .int .i64 (f + W)] (HO1.out.alloc _) rfl (fun h => by cases h) (new_cells _ [.int .i64 f, .int .i64 (f + W)] _ _ rfl) (by simp [Value.oneCell']) (by omega) (by simp; omega) rfl rfl rfl rfl ?_; intro v2 w2 ho2 hg2 _
                   obtain ⟨a2, c2, rfl, -⟩ := owns_news ho2
                   have HO2 := Lib.hid ho2
                   have HG2 := Lib.hid hg2
                   clear ho2 hg2)
      have HB2 := Lib.hid ((HB1.out.alloc (by have := HB1.out.size; omega) (.cells #[.int .i64 f, .int .i64 (f + W)] 108)).grown HG2.out (by simp; omega) (fun z hz => by have := (HO1.out.lt z hz).1; omega))
      have hz2 := HB2.out.size
      go_roundg (gk - 1)
      case measure => omega
      case rel =>
        refine ⟨i + 1, by omega, by first | rw [hnx] | rfl, Lib.hid ?_, HB2, hz2⟩
        rw [HSU.out, prI_append, List.map_append]
        exact HO2.out
    · have him : m = i := by omega
      subst him
      have hgo : decide (((m * W : Nat) : Int) < size) = false := by simp; rw [HALL.out, Nat.mul_comm]; omega
      clear AR
      obtain ⟨f, hf⟩ : ∃ f : Int, ((m * W : Nat) : Int) = f := ⟨_, rfl⟩
      rw [hf] at hgo ⊢
      clear hf
      go_wp2
      go_ret2
      refine ⟨_, rfl, ?_, HB.out⟩
      rw [rowL_length]
      exact HO.out
end

section
open Go.RowKit Go.Sort

theorem wpList_of_quiet {P : Program} {ops : Array Oper} {C : World → Prop} {Q : Exit → Act → World → Prop} : ∀ (l : List Oper) (a : Act) (w : World), C w →
    wpQuiet P ops C (fun a' => ∀ w', C w' → Q .normal a' w') l a → wpList P ops Q l a w
  | [], _, w, hC, h => h w hC
  | o :: rest, a, w, hC, h => by
    unfold wpQuiet at h
    unfold wpList
    split
    · rename_i hw
      rw [if_pos hw] at h
      exact .inl (Oper.wp_of_quiet hC (fun a' w' hw' hk => wpList_of_quiet rest a' w' hw' hk) h)
    · rename_i hw
      rw [if_neg hw] at h
      exact wpList_of_quiet rest _ w hC h
theorem wp_text_quiet_below {P : Program} {id : Nat} {Q : Exit → Act → World → Prop} {a : Act} {w : World} {l : List Oper}
    (h : wpQuiet P l.toArray (fun w' => ∃ p : Regrown, w' = grow (redrawn w p.d) p.os) (fun a' => ∀ w', (∃ p : Regrown, w' = grow (redrawn w p.d) p.os) → Q .normal a' w') l a) : (Code.region id l.toArray false).wp P Q a w :=
  wp_region_lit (wpList_of_quiet (C := fun w' => ∃ p : Regrown, w' = grow (redrawn w p.d) p.os) l a w ⟨⟨w.drawn, #[]⟩, by rw [grow_empty]; rfl⟩ h)
end
end Go.Proofs.YtjhpblejlchhjaaGreat
