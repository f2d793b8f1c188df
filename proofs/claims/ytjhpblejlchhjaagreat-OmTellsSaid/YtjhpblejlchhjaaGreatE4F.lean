/- Merged: Empty04, FillPl. -/
import Derived.Test.YtjhpblejlchhjaaGreatSlPut
import Derived.Deep.CutRange
import Derived.Laws.BitsAllLaws
namespace Go.Proofs.YtjhpblejlchhjaaGreat
set_option maxRecDepth 100000
set_option maxHeartbeats 4000000
set_option linter.unusedVariables false
set_option linter.unusedSimpArgs false
section
open Go.RowKit Go.Shelf
attribute [local go_sem] Oper.semAt_some

theorem Empty04_core (w : World) (seg many nw nc : Nat) (hs : 4 ≤ seg) (hm : many ≤ 65536) (hs2 : seg ≤ 64) (hnw : ((many : Int) + 63).tdiv 64 = nw) (hnc : (many : Int).tdiv seg = nc) (hnw2 : nw ≤ 65536) (hnc2 : nc ≤ 65536) :
    Calls Tryz.prog 49 #[.int .i64 seg, .int .i64 many] w (FreshSl w (zeroSl seg many nw nc)) := by
  have hs0 : ((seg : Int) == 0) = false := by simp; omega
  have hsn : ¬ (seg : Int) = 0 := by omega
  have hsn2 : ¬ seg = 0 := by omega
  have hw0 : IntKind.i64.wrap ((many : Int) + 63) = (many : Int) + 63 := IntWalk.i64_in _ (by omega)
  have hw1 : IntKind.i64.wrap (nw : Int) = (nw : Int) := IntWalk.i64_in _ (by omega)
  have hw2 : IntKind.i64.wrap (nc : Int) = (nc : Int) := IntWalk.i64_in _ (by omega)
  go_enter Tryz.func49, Tryz.ntmps49
  go_upto_region 1 with (fail)
  generalize hwz : w.alloc (.cells #[.int .i64 0, .slice none 0 0, .slice none 0 0, .slice none 0 0, .slice none 0 0, .int .u64 0] 29) = wz
  have c_r0 : wz.cell? ⟨w.heap.size, 0, none⟩ = some (.int .i64 0) := by rw [← hwz]; (exact xcg)
  have f_r0 : wz.frozen? ⟨w.heap.size, 0, none⟩ = false := by rw [← hwz]; (exact xcg)
  have c_r1 : wz.cell? ⟨w.heap.size, 1, none⟩ = some (.slice none 0 0) := by rw [← hwz]; (exact xcg)
  have f_r1 : wz.frozen? ⟨w.heap.size, 1, none⟩ = false := by rw [← hwz]; (exact xcg)
  have c_r2 : wz.cell? ⟨w.heap.size, 2, none⟩ = some (.slice none 0 0) := by rw [← hwz]; (exact xcg)
  have f_r2 : wz.frozen? ⟨w.heap.size, 2, none⟩ = false := by rw [← hwz]; (exact xcg)
  have c_r3 : wz.cell? ⟨w.heap.size, 3, none⟩ = some (.slice none 0 0) := by rw [← hwz]; (exact xcg)
  have f_r3 : wz.frozen? ⟨w.heap.size, 3, none⟩ = false := by rw [← hwz]; (exact xcg)
  have c_r4 : wz.cell? ⟨w.heap.size, 4, none⟩ = some (.slice none 0 0) := by rw [← hwz]; (exact xcg)
  have f_r4 : wz.frozen? ⟨w.heap.size, 4, none⟩ = false := by rw [← hwz]; (exact xcg)
  have c_r5 : wz.cell? ⟨w.heap.size, 5, none⟩ = some (.int .u64 0) := by rw [← hwz]; (exact xcg)
  have f_r5 : wz.frozen? ⟨w.heap.size, 5, none⟩ = false := by rw [← hwz]; (exact xcg)
  have z_r : w.heap.size < wz.heap.size := by rw [← hwz]; (exact xlt)
  have HS : Hid (Below w.heap.size w wz) := by rw [← hwz]; exact Lib.hid ((Below.refl _ _).alloc (Nat.le_refl _) _)
  have hz : w.heap.size + 1 = wz.heap.size := by rw [← hwz]; simp
  clear hwz
  refine wp_region_late 14 (by kernel_rfl) (N := 19) rfl (by kernel_rfl) (by kernel_rfl) (by decide) (fun w' => Below wz.heap.size wz w') RB (factRAt [.is (.int .i64 seg), .is (.int .i64 many), .is (.int .i64 ((many : Int) + 63)), .is (.int .i64 nw), .own wz.heap.size 27 nw ((List.replicate nw (0 : Int)).map (Value.int .u64)), .is (.int .i64 many), .own wz.heap.size 2 many ((List.replicate many (0 : Int)).map (Value.int .i64)), .is (.int .i64 many), .own wz.heap.size 2 many ((List.replicate many (0 : Int)).map (Value.int .i64)), .is (.int .i64 many), .is (.int .i64 seg), .is (.int .i64 nc), .own wz.heap.size 3 nc ((List.replicate nc (0 : Int)).map (Value.int .i64)), .sl wz.heap.size (zeroSl seg many nw nc)]) (factRAt_stays _) (Below.refl _ _).drew ?steps ?fin
  case steps =>
    refine ⟨?o0, ?o1, ?o2, ?o3, ?o4, ?o5, ?o6, ?o7, ?o8, ?o9, ?o10, ?o11, ?o12, ?o13, trivial⟩
    case o0 =>
      intro u a w' ev hJ hd K hK
      have e0 : a.tmps.getD 0 undef = .int .i64 seg := ev 0 (by decide)
      have HK := Lib.hid hK
      clear hK ev hd
      go_simp
      exact HK.out _ _ (fun h => by cases h) hJ rfl (Below.refl _ _)
    case o1 =>
      intro u a w' ev hJ hd K hK
      have e1 : a.tmps.getD 1 undef = .int .i64 many := ev 1 (by decide)
      have HK := Lib.hid hK
      clear hK ev hd
      go_simp
      exact HK.out _ _ (fun h => by cases h) hJ rfl (Below.refl _ _)
    case o2 =>
      intro u a w' ev hJ hd K hK
      have e6 : a.tmps.getD 6 undef = .int .i64 many := (ev 6 (by decide)).trans (hd 1 _ (by kernel_rfl) rfl)
      have HK := Lib.hid hK
      clear hK ev hd
      go_simp
      exact HK.out _ _ (fun h => by cases h) hJ rfl (Below.refl _ _)
    case o3 =>
      intro u a w' ev hJ hd K hK
      have e7 : a.tmps.getD 7 undef = .int .i64 ((many : Int) + 63) := (ev 7 (by decide)).trans (hd 2 _ (by kernel_rfl) rfl)
      have HK := Lib.hid hK
      clear hK ev hd
      go_simp
      exact HK.out _ _ (fun h => by cases h) hJ rfl (Below.refl _ _)
    case o4 =>
      intro u a w' ev hJ hd K hK
      have e8 : a.tmps.getD 8 undef = .int .i64 nw := (ev 8 (by decide)).trans (hd 3 _ (by kernel_rfl) rfl)
      exact wp_make (.tmp 8) (.tmp 8) 24 27 _ 1 8 Tryz.underlying24 info4_uint64 (by decide) wz.heap.size nw _ rfl (by omega) hJ.size rfl e8 e8 (fun g w'' k1 k2 k3 => hK _ _ (fun h => by cases h) (hJ.trans (k3.mono hJ.size)) ⟨g, rfl, by rw [made_zero] at k2; exact k2⟩ k3)
    case o5 =>
      intro u a w' ev hJ hd K hK
      have e1 : a.tmps.getD 1 undef = .int .i64 many := ev 1 (by decide)
      have HK := Lib.hid hK
      clear hK ev hd
      go_simp
      exact HK.out _ _ (fun h => by cases h) hJ rfl (Below.refl _ _)
    case o6 =>
      intro u a w' ev hJ hd K hK
      have e10 : a.tmps.getD 10 undef = .int .i64 many := (ev 10 (by decide)).trans (hd 5 _ (by kernel_rfl) rfl)
      exact wp_make (.tmp 10) (.tmp 10) 25 2 _ 1 8 Tryz.underlying25 info4_int64 (by decide) wz.heap.size many _ rfl (by omega) hJ.size rfl e10 e10 (fun g w'' k1 k2 k3 => hK _ _ (fun h => by cases h) (hJ.trans (k3.mono hJ.size)) ⟨g, rfl, by rw [made_zero] at k2; exact k2⟩ k3)
    case o7 =>
      intro u a w' ev hJ hd K hK
      have e1 : a.tmps.getD 1 undef = .int .i64 many := ev 1 (by decide)
      have HK := Lib.hid hK
      clear hK ev hd
      go_simp
      exact HK.out _ _ (fun h => by cases h) hJ rfl (Below.refl _ _)
    case o8 =>
      intro u a w' ev hJ hd K hK
      have e12 : a.tmps.getD 12 undef = .int .i64 many := (ev 12 (by decide)).trans (hd 7 _ (by kernel_rfl) rfl)
      exact wp_make (.tmp 12) (.tmp 12) 25 2 _ 1 8 Tryz.underlying25 info4_int64 (by decide) wz.heap.size many _ rfl (by omega) hJ.size rfl e12 e12 (fun g w'' k1 k2 k3 => hK _ _ (fun h => by cases h) (hJ.trans (k3.mono hJ.size)) ⟨g, rfl, by rw [made_zero] at k2; exact k2⟩ k3)
    case o9 =>
      intro u a w' ev hJ hd K hK
      have e1 : a.tmps.getD 1 undef = .int .i64 many := ev 1 (by decide)
      have HK := Lib.hid hK
      clear hK ev hd
      go_simp
      exact HK.out _ _ (fun h => by cases h) hJ rfl (Below.refl _ _)
    case o10 =>
      intro u a w' ev hJ hd K hK
      have e0 : a.tmps.getD 0 undef = .int .i64 seg := ev 0 (by decide)
      have HK := Lib.hid hK
      clear hK ev hd
      go_simp
      exact HK.out _ _ (fun h => by cases h) hJ rfl (Below.refl _ _)
    case o11 =>
      intro u a w' ev hJ hd K hK
      have e14 : a.tmps.getD 14 undef = .int .i64 many := (ev 14 (by decide)).trans (hd 9 _ (by kernel_rfl) rfl)
      have e15 : a.tmps.getD 15 undef = .int .i64 seg := (ev 15 (by decide)).trans (hd 10 _ (by kernel_rfl) rfl)
      have HK := Lib.hid hK
      clear hK ev hd
      go_simp
      exact HK.out _ _ (fun h => by cases h) hJ rfl (Below.refl _ _)
    case o12 =>
      intro u a w' ev hJ hd K hK
      have e16 : a.tmps.getD 16 undef = .int .i64 nc := (ev 16 (by decide)).trans (hd 11 _ (by kernel_rfl) rfl)
      exact wp_make (.tmp 16) (.tmp 16) 26 3 _ 1 8 Tryz.underlying26 info4_int (by decide) wz.heap.size nc _ rfl (by omega) hJ.size rfl e16 e16 (fun g w'' k1 k2 k3 => hK _ _ (fun h => by cases h) (hJ.trans (k3.mono hJ.size)) ⟨g, rfl, by rw [made_zero] at k2; exact k2⟩ k3)
    case o13 =>
      intro u a w' ev hJ hd K hK
      have h5 : u 5 = .int .i64 seg := hd 0 _ (by kernel_rfl) rfl
      obtain ⟨g9, h9, o9⟩ : (FactR.own wz.heap.size 27 nw ((List.replicate nw (0 : Int)).map (Value.int .u64))).holds (u 9) w' := hd 4 _ (by kernel_rfl) rfl
      obtain ⟨g11, h11, o11⟩ : (FactR.own wz.heap.size 2 many ((List.replicate many (0 : Int)).map (Value.int .i64))).holds (u 11) w' := hd 6 _ (by kernel_rfl) rfl
      obtain ⟨g13, h13, o13⟩ : (FactR.own wz.heap.size 2 many ((List.replicate many (0 : Int)).map (Value.int .i64))).holds (u 13) w' := hd 8 _ (by kernel_rfl) rfl
      obtain ⟨g17, h17, o17⟩ : (FactR.own wz.heap.size 3 nc ((List.replicate nc (0 : Int)).map (Value.int .i64))).holds (u 17) w' := hd 12 _ (by kernel_rfl) rfl
      have f5 : a.tmps[5]?.getD undef = .int .i64 seg := by rw [← Array.getD_eq_getD_getElem?]; exact (ev 5 (by decide)).trans h5
      have f9 : a.tmps[9]?.getD undef = .slice (some ⟨g9, 0, none⟩) nw nw := by rw [← Array.getD_eq_getD_getElem?]; exact (ev 9 (by decide)).trans h9
      have f11 : a.tmps[11]?.getD undef = .slice (some ⟨g11, 0, none⟩) many many := by rw [← Array.getD_eq_getD_getElem?]; exact (ev 11 (by decide)).trans h11
      have f13 : a.tmps[13]?.getD undef = .slice (some ⟨g13, 0, none⟩) many many := by rw [← Array.getD_eq_getD_getElem?]; exact (ev 13 (by decide)).trans h13
      have f17 : a.tmps[17]?.getD undef = .slice (some ⟨g17, 0, none⟩) nc nc := by rw [← Array.getD_eq_getD_getElem?]; exact (ev 17 (by decide)).trans h17
      have HK := Lib.hid hK
      have O9 := Lib.hid o9
      have O11 := Lib.hid o11
      have O13 := Lib.hid o13
      have O17 := Lib.hid o17
      clear hK ev hd h5 h9 h11 h13 h17 o9 o11 o13 o17
      go_simp
      exact HK.out _ _ (fun h => by cases h) hJ ⟨_, _, _, _, rfl, by simpa [zeroSl] using O9.out, by simpa [zeroSl] using O11.out, by simpa [zeroSl] using O13.out, by simpa [zeroSl] using O17.out⟩ (Below.refl _ _)
  case fin =>
    intro u w2 hJ hG
    obtain ⟨v1, v2, v3, v4, h18, p1, p2, p3, p4⟩ : (FactR.sl wz.heap.size (zeroSl seg many nw nc)).holds (u 18) w2 := hG 13 _ rfl
    obtain ⟨a1, c1, rfl, -⟩ := owns_news p1
    obtain ⟨a2, c2, rfl, -⟩ := owns_news p2
    obtain ⟨a3, c3, rfl, -⟩ := owns_news p3
    obtain ⟨a4, c4, rfl, -⟩ := owns_news p4
    have HP1 := Lib.hid p1
    have HP2 := Lib.hid p2
    have HP3 := Lib.hid p3
    have HP4 := Lib.hid p4
    have hz_w2 := hJ.size
    try simp only [World.size_alloc, World.size_setCell] at hz_w2
    replace c_r0 : w2.cell? ⟨w.heap.size, 0, none⟩ = some (.int .i64 0) := (hJ.cell (p := ⟨w.heap.size, 0, none⟩) (by (exact xlt))).trans (by (exact xcn))
    replace f_r0 : w2.frozen? ⟨w.heap.size, 0, none⟩ = false := (hJ.frozen (p := ⟨w.heap.size, 0, none⟩) (by (exact xlt))).trans (by (exact xcn))
    replace c_r1 : w2.cell? ⟨w.heap.size, 1, none⟩ = some (.slice none 0 0) := (hJ.cell (p := ⟨w.heap.size, 1, none⟩) (by (exact xlt))).trans (by (exact xcn))
    replace f_r1 : w2.frozen? ⟨w.heap.size, 1, none⟩ = false := (hJ.frozen (p := ⟨w.heap.size, 1, none⟩) (by (exact xlt))).trans (by (exact xcn))
    replace c_r2 : w2.cell? ⟨w.heap.size, 2, none⟩ = some (.slice none 0 0) := (hJ.cell (p := ⟨w.heap.size, 2, none⟩) (by (exact xlt))).trans (by (exact xcn))
    replace f_r2 : w2.frozen? ⟨w.heap.size, 2, none⟩ = false := (hJ.frozen (p := ⟨w.heap.size, 2, none⟩) (by (exact xlt))).trans (by (exact xcn))
    replace c_r3 : w2.cell? ⟨w.heap.size, 3, none⟩ = some (.slice none 0 0) := (hJ.cell (p := ⟨w.heap.size, 3, none⟩) (by (exact xlt))).trans (by (exact xcn))
    replace f_r3 : w2.frozen? ⟨w.heap.size, 3, none⟩ = false := (hJ.frozen (p := ⟨w.heap.size, 3, none⟩) (by (exact xlt))).trans (by (exact xcn))
    replace c_r4 : w2.cell? ⟨w.heap.size, 4, none⟩ = some (.slice none 0 0) := (hJ.cell (p := ⟨w.heap.size, 4, none⟩) (by (exact xlt))).trans (by (exact xcn))
    replace f_r4 : w2.frozen? ⟨w.heap.size, 4, none⟩ = false := (hJ.frozen (p := ⟨w.heap.size, 4, none⟩) (by (exact xlt))).trans (by (exact xcn))
    replace c_r5 : w2.cell? ⟨w.heap.size, 5, none⟩ = some (.int .u64 0) := (hJ.cell (p := ⟨w.heap.size, 5, none⟩) (by (exact xlt))).trans (by (exact xcn))
    replace f_r5 : w2.frozen? ⟨w.heap.size, 5, none⟩ = false := (hJ.frozen (p := ⟨w.heap.size, 5, none⟩) (by (exact xlt))).trans (by (exact xcn))
    replace z_r : w.heap.size < w2.heap.size := by omega
    have hB2 : Below w.heap.size w w2 := below_via hJ HS.out (by omega)
    clear hG p1 p2 p3 p4 hJ
    simp only [mixFrame, mixL, dstsOf, List.take_succ_cons, List.take_zero, List.filterMap_cons, List.filterMap_nil, List.contains_cons, List.contains_nil, Nat.reduceBEq, Bool.or_false, Bool.false_or, Bool.or_true, Bool.true_or, if_true, if_false, Bool.false_eq_true, Nat.reduceAdd, Nat.zero_add, List.drop_succ_cons, List.drop_zero, h18]
    go_wp2
    have HQ : Hid (∀ q, w.heap.size + 1 ≤ q → ((((((w2.setCell ⟨w.heap.size, 0, none⟩ (.int .i64 (zeroSl seg many nw nc).seg)).setCell ⟨w.heap.size, 1, none⟩ (.slice a1 (zeroSl seg many nw nc).ws.length c1)).setCell ⟨w.heap.size, 2, none⟩ (.slice a2 (zeroSl seg many nw nc).ks.length c2)).setCell ⟨w.heap.size, 3, none⟩ (.slice a3 (zeroSl seg many nw nc).vs.length c3)).setCell ⟨w.heap.size, 4, none⟩ (.slice a4 (zeroSl seg many nw nc).cs.length c4)).setCell ⟨w.heap.size, 5, none⟩ (.int .u64 (zeroSl seg many nw nc).laid)).heap[q]? = w2.heap[q]?) := Lib.hid fun q hq => by
      rw [heap_setCell_ne _ _ _ (by dsimp only; omega), heap_setCell_ne _ _ _ (by dsimp only; omega), heap_setCell_ne _ _ _ (by dsimp only; omega), heap_setCell_ne _ _ _ (by dsimp only; omega), heap_setCell_ne _ _ _ (by dsimp only; omega), heap_setCell_ne _ _ _ (by dsimp only; omega)]
    refine bodyPost_ret (results_c rfl rfl (run_loadVar_many _ Tryz.underlying29 rfl (by kernel_rfl) (six_set c_r0 c_r1 c_r2 c_r3 c_r4 c_r5))) rfl ⟨_, _, _, _, rfl, ?_, ?_, ?_, ?_, ?_⟩
    · exact owns_base (owns_heap HP1.out fun j hj => HQ.out j (by have := (HP1.out.lt j hj).1; omega)) (by omega)
    · exact owns_base (owns_heap HP2.out fun j hj => HQ.out j (by have := (HP2.out.lt j hj).1; omega)) (by omega)
    · exact owns_base (owns_heap HP3.out fun j hj => HQ.out j (by have := (HP3.out.lt j hj).1; omega)) (by omega)
    · exact owns_base (owns_heap HP4.out fun j hj => HQ.out j (by have := (HP4.out.lt j hj).1; omega)) (by omega)
    · exact (((((hB2.setCell (by dsimp only; omega) _).setCell (by dsimp only; omega) _).setCell (by dsimp only; omega) _).setCell (by dsimp only; omega) _).setCell (by dsimp only; omega) _).setCell (by dsimp only; omega) _
end

section
open Go Go.RowKit

theorem wrap_two {r : Nat} (hr : r < 64) : IntKind.u64.wrap (2 ^ r) = ((2 ^ r : Nat) : Int) := by
  have h : 2 ^ r < 2 ^ 64 := Nat.pow_lt_pow_right (by omega) hr
  have e : (2 : Int) ^ r = ((2 ^ r : Nat) : Int) := by push_cast; rfl
  rw [e, IntKind.wrap_u64, Int.emod_eq_of_lt (Int.natCast_nonneg _) (by omega)]
theorem clrX_nat {x r : Nat} (hx : x < 18446744073709551616) (hr : r < 64) : clrX (x : Int) r = ((x &&& (2 ^ 64 - (2 ^ r + 1)) : Nat) : Int) := by
  have h : 2 ^ r < 2 ^ 64 := Nat.pow_lt_pow_right (by omega) hr
  rw [clrX, wrap_two hr, u64_andNot_nat _ _ hx (by omega), show 18446744073709551615 - 2 ^ r = 2 ^ 64 - (2 ^ r + 1) by omega]
theorem setX_nat {x r : Nat} (hx : x < 18446744073709551616) (hr : r < 64) : setX (x : Int) r = ((x ||| 2 ^ r : Nat) : Int) := by
  have h : 2 ^ r < 2 ^ 64 := Nat.pow_lt_pow_right (by omega) hr
  rw [setX, wrap_two hr, u64_or_nat _ _ hx (by omega)]
theorem bitI_clr {x : Int} {r : Nat} (h0 : 0 ≤ x) (h1 : x < 18446744073709551616) (hr : r < 64) (k : Nat) : bitI (clrX x r) k = (bitI x k && decide (k ≠ r)) := by
  obtain ⟨n, rfl⟩ := Int.eq_ofNat_of_zero_le h0
  have h : 2 ^ r < 2 ^ 64 := Nat.pow_lt_pow_right (by omega) hr
  rw [clrX_nat (by omega) hr, bitI_nat, bitI_nat, Nat.testBit_and, Nat.testBit_two_pow_sub_succ h, Nat.testBit_two_pow]
  by_cases hk : k < 64
  · by_cases hkr : r = k
    · subst hkr; simp
    · have : k ≠ r := fun e => hkr e.symm
      simp [hk, hkr, this]
  · have : n.testBit k = false := by
      have := bitI_high (x := (n : Int)) h1 (k := k) (by omega)
      rwa [bitI_nat] at this
    simp [this]
theorem bitI_set {x : Int} {r : Nat} (h0 : 0 ≤ x) (h1 : x < 18446744073709551616) (hr : r < 64) (k : Nat) : bitI (setX x r) k = (bitI x k || decide (k = r)) := by
  obtain ⟨n, rfl⟩ := Int.eq_ofNat_of_zero_le h0
  rw [setX_nat (by omega) hr, bitI_nat, bitI_nat, Nat.testBit_or, Nat.testBit_two_pow]
  by_cases hkr : r = k
  · subst hkr; simp
  · have : k ≠ r := fun e => hkr e.symm
    simp [hkr, this]
theorem clrX_bd {x : Int} {r : Nat} (h0 : 0 ≤ x) (h1 : x < 18446744073709551616) (hr : r < 64) : 0 ≤ clrX x r ∧ clrX x r < 18446744073709551616 := by
  obtain ⟨n, rfl⟩ := Int.eq_ofNat_of_zero_le h0
  rw [clrX_nat (by omega) hr]
  have := Nat.and_le_left (n := n) (m := 2 ^ 64 - (2 ^ r + 1))
  omega
theorem setX_bd {x : Int} {r : Nat} (h0 : 0 ≤ x) (h1 : x < 18446744073709551616) (hr : r < 64) : 0 ≤ setX x r ∧ setX x r < 18446744073709551616 := by
  obtain ⟨n, rfl⟩ := Int.eq_ofNat_of_zero_le h0
  rw [setX_nat (by omega) hr]
  have h : 2 ^ r < 2 ^ 64 := Nat.pow_lt_pow_right (by omega) hr
  have := Nat.or_lt_two_pow (x := n) (y := 2 ^ r) (n := 64) (by omega) h
  omega
theorem getD_set_at (l : List Int) (i j : Nat) (v : Int) : (l.set i v).getD j 0 = if i = j ∧ i < l.length then v else l.getD j 0 := by
  rw [List.getD_eq_getElem?_getD, List.getD_eq_getElem?_getD, List.getElem?_set]
  by_cases h : i = j
  · subst h
    by_cases h2 : i < l.length
    · simp [h2]
    · simp [h2]
  · simp [h]
theorem bitW_clr {ws : List Int} (hu : U64s ws) {i : Nat} (hi : i / 64 < ws.length) (j : Nat) : bitW (clrL ws i) j = (bitW ws j && decide (j ≠ i)) := by
  have hg := hu.get (i / 64)
  rw [bitW, clrL, getD_set_at]
  by_cases h : i / 64 = j / 64
  · rw [if_pos ⟨h, hi⟩, bitI_clr hg.1 hg.2 (Nat.mod_lt _ (by omega)), h, bitW]
    congr 1
    rw [decide_eq_decide]
    omega
  · rw [if_neg (fun q => h q.1), bitW]
    have : j ≠ i := fun e => h (by rw [e])
    simp [this]
theorem bitW_set {ws : List Int} (hu : U64s ws) {i : Nat} (hi : i / 64 < ws.length) (j : Nat) : bitW (setL ws i) j = (bitW ws j || decide (j = i)) := by
  have hg := hu.get (i / 64)
  rw [bitW, setL, getD_set_at]
  by_cases h : i / 64 = j / 64
  · rw [if_pos ⟨h, hi⟩, bitI_set hg.1 hg.2 (Nat.mod_lt _ (by omega)), h, bitW]
    congr 1
    rw [decide_eq_decide]
    omega
  · rw [if_neg (fun q => h q.1), bitW]
    have : j ≠ i := fun e => h (by rw [e])
    simp [this]
theorem U64s_clr {ws : List Int} (hu : U64s ws) (i : Nat) : U64s (clrL ws i) := by
  intro x hx
  rcases List.mem_or_eq_of_mem_set hx with h | rfl
  · exact hu x h
  · have hg := hu.get (i / 64)
    exact clrX_bd hg.1 hg.2 (Nat.mod_lt _ (by omega))
theorem U64s_set {ws : List Int} (hu : U64s ws) (i : Nat) : U64s (setL ws i) := by
  intro x hx
  rcases List.mem_or_eq_of_mem_set hx with h | rfl
  · exact hu x h
  · have hg := hu.get (i / 64)
    exact setX_bd hg.1 hg.2 (Nat.mod_lt _ (by omega))
theorem set_getD_self (l : List Int) (i : Nat) : l.set i (l.getD i 0) = l := by
  apply List.ext_getElem? fun j => ?_
  rw [List.getElem?_set]
  by_cases h : i = j
  · subst h
    rw [if_pos rfl]
    by_cases h2 : i < l.length
    · simp [h2, List.getD_eq_getElem?_getD]
    · rw [if_neg h2, List.getElem?_eq_none (by omega)]
  · rw [if_neg h]
theorem clrL_same {ws : List Int} (hu : U64s ws) {i : Nat} (hb : bitW ws i = false) : clrL ws i = ws := by
  have hg := hu.get (i / 64)
  have hr : i % 64 < 64 := Nat.mod_lt _ (by omega)
  have hc := clrX_bd hg.1 hg.2 hr
  rw [clrL]
  have : clrX (ws.getD (i / 64) 0) (i % 64) = ws.getD (i / 64) 0 := by
    apply int_eq_of_bits hc.1 hg.1
    intro k
    rw [bitI_clr hg.1 hg.2 hr]
    by_cases hk : k = i % 64
    · subst hk
      rw [bitW] at hb
      rw [hb]
      rfl
    · simp [hk]
  rw [this, set_getD_self]
theorem countP_flip {p q : Nat → Bool} {i : Nat} (hp : p i = true) (hq : q i = false) (he : ∀ j, j ≠ i → q j = p j) : ∀ (d a : Nat), (List.range' a d).countP p = (List.range' a d).countP q + if a ≤ i ∧ i < a + d then 1 else 0 := by
  intro d
  induction d with
  | zero => intro a; simp
  | succ d ih =>
    intro a
    rw [List.range'_succ, List.countP_cons, List.countP_cons, ih (a + 1)]
    by_cases h : a = i
    · subst h
      have e1 : ¬ (a + 1 ≤ a ∧ a < a + 1 + d) := by omega
      have e2 : a ≤ a ∧ a < a + (d + 1) := by omega
      rw [hp, hq, if_neg e1, if_pos e2]
      simp
    · rw [he a h]
      by_cases h2 : a + 1 ≤ i ∧ i < a + 1 + d
      · have e2 : a ≤ i ∧ i < a + (d + 1) := by omega
        rw [if_pos h2, if_pos e2]; omega
      · have e2 : ¬ (a ≤ i ∧ i < a + (d + 1)) := by omega
        rw [if_neg h2, if_neg e2]; omega
theorem cntW_clr {ws : List Int} (hu : U64s ws) {i : Nat} (hi : i / 64 < ws.length) (hb : bitW ws i = true) (a b : Nat) : cntW ws a b = cntW (clrL ws i) a b + if a ≤ i ∧ i < b then 1 else 0 := by
  rw [cntW, cntW, countP_flip (p := bitW ws) (q := bitW (clrL ws i)) hb (by rw [bitW_clr hu hi]; simp) (fun j hj => by rw [bitW_clr hu hi]; simp [hj])]
  congr 1
  by_cases h : a ≤ i ∧ i < b
  · rw [if_pos (by omega), if_pos h]
  · rw [if_neg (by omega), if_neg h]
theorem cntW_set {ws : List Int} (hu : U64s ws) {i : Nat} (hi : i / 64 < ws.length) (hb : bitW ws i = false) (a b : Nat) : cntW (setL ws i) a b = cntW ws a b + if a ≤ i ∧ i < b then 1 else 0 := by
  rw [cntW, cntW, countP_flip (p := bitW (setL ws i)) (q := bitW ws) (by rw [bitW_set hu hi]; simp) hb (fun j hj => by rw [bitW_set hu hi]; simp [hj])]
  congr 1
  by_cases h : a ≤ i ∧ i < b
  · rw [if_pos (by omega), if_pos h]
  · rw [if_neg (by omega), if_neg h]

structure SlGd (c : SlC) (S lw n lc : Nat) : Prop where
  seg : c.seg = S
  elw : c.ws.length = lw
  elk : c.ks.length = n
  elv : c.vs.length = n
  elc : c.cs.length = lc
  s4 : 4 ≤ S
  s64 : S ≤ 64
  cn : n = S * lc
  wn : n ≤ 64 * lw
  n1 : 1 ≤ n
  nm : n ≤ 65536
  u : U64s c.ws
  cnt : ∀ k, k < lc → c.cs.getD k 0 = (cntW c.ws (k * S) ((k + 1) * S) : Int)
  hi : ∀ i, n ≤ i → bitW c.ws i = false
  clr : ∀ i, bitW c.ws i = false → c.ks.getD i 0 = 0 ∧ c.vs.getD i 0 = 0
theorem SlGd.ok {c : SlC} {S lw n lc : Nat} (h : SlGd c S lw n lc) : okC c = true := by
  simp only [okC, Bool.and_eq_true, List.all_eq_true, decide_eq_true_eq]
  refine ⟨fun x hx => h.u x hx, fun x hx => ?_⟩
  obtain ⟨k, hk, rfl⟩ := List.mem_iff_getElem.1 hx
  have := h.cnt k (by rw [← h.elc]; exact hk)
  rw [List.getD_eq_getElem?_getD, List.getElem?_eq_getElem hk, Option.getD_some] at this
  have h2 := cntW_le c.ws (k * S) ((k + 1) * S)
  rw [show (k + 1) * S - k * S = S by rw [Nat.succ_mul]; omega] at h2
  have := h.s64
  omega
theorem seg_in {S i k : Nat} (hS : 4 ≤ S) : (k * S ≤ i ∧ i < (k + 1) * S) ↔ i / S = k := by
  constructor
  · rintro ⟨h1, h2⟩
    apply Nat.le_antisymm
    · exact Nat.le_of_lt_succ ((Nat.div_lt_iff_lt_mul (by omega)).2 h2)
    · exact (Nat.le_div_iff_mul_le (by omega)).2 h1
  · rintro rfl
    exact ⟨Nat.div_mul_le_self _ _, by rw [Nat.succ_mul]; have e := Nat.div_add_mod i S; have := Nat.mod_lt i (show 0 < S by omega); rw [Nat.mul_comm] at e; omega⟩
theorem SlGd.tk {c : SlC} {S lw n lc : Nat} (h : SlGd c S lw n lc) {i : Nat} (hi : i < n) : SlGd (tkC c i) S lw n lc := by
  have hq : i / 64 < c.ws.length := by rw [h.elw]; have := h.wn; omega
  have hs : i / S < lc := (Nat.div_lt_iff_lt_mul (by have := h.s4; omega)).2 (by rw [Nat.mul_comm, ← h.cn]; exact hi)
  have hseg : c.seg.toNat = S := by rw [h.seg]; rfl
  refine ⟨h.seg, ?_, ?_, ?_, ?_, h.s4, h.s64, h.cn, h.wn, h.n1, h.nm, U64s_clr h.u i, ?_, ?_, ?_⟩
  · simp [tkC, clrL, h.elw]
  · simp [tkC, h.elk]
  · simp [tkC, h.elv]
  · simp only [tkC]
    split
    · rw [List.length_set]; exact h.elc
    · exact h.elc
  · intro k hk
    simp only [tkC]
    rw [hseg]
    cases hb : bitW c.ws i with
    | true =>
      have e := cntW_clr h.u hq hb (k * S) ((k + 1) * S)
      rw [if_pos rfl, getD_set_at, h.elc]
      by_cases hki : i / S = k
      · subst hki
        rw [if_pos ((seg_in h.s4).2 rfl)] at e
        rw [if_pos ⟨rfl, hk⟩, h.cnt _ hk, e]
        omega
      · rw [if_neg (fun q => hki ((seg_in h.s4).1 q))] at e
        rw [if_neg (fun q => hki q.1), h.cnt _ hk, e]
        omega
    | false =>
      rw [if_neg (by decide), clrL_same h.u hb, h.cnt k hk]
  · intro j hj
    simp only [tkC]
    rw [bitW_clr h.u hq, h.hi j hj]
    rfl
  · intro j hj
    simp only [tkC] at hj ⊢
    rw [bitW_clr h.u hq] at hj
    rw [getD_set_at, getD_set_at, h.elk, h.elv]
    by_cases hji : i = j
    · subst hji
      simp [hi]
    · rw [if_neg (fun q => hji q.1), if_neg (fun q => hji q.1)]
      apply h.clr
      have : j ≠ i := fun e => hji e.symm
      simpa [this] using hj
theorem tk_bit {c : SlC} {S lw n lc : Nat} (h : SlGd c S lw n lc) {i : Nat} (hi : i < n) (j : Nat) : bitW (tkC c i).ws j = (bitW c.ws j && decide (j ≠ i)) :=
  bitW_clr h.u (by rw [h.elw]; have := h.wn; omega) j
theorem SlGd.ly {c : SlC} {S lw n lc : Nat} (h : SlGd c S lw n lc) {i : Nat} (hi : i < n) (key val : Int) : SlGd (lyC c i key val) S lw n lc := by
  have g := h.tk hi
  have hq : i / 64 < (tkC c i).ws.length := by rw [g.elw]; have := h.wn; omega
  have hseg : c.seg.toNat = S := by rw [h.seg]; rfl
  have hb : bitW (tkC c i).ws i = false := by rw [tk_bit h hi]; simp
  have hs : i / S < lc := (Nat.div_lt_iff_lt_mul (by have := h.s4; omega)).2 (by rw [Nat.mul_comm, ← h.cn]; exact hi)
  refine ⟨h.seg, ?_, ?_, ?_, ?_, h.s4, h.s64, h.cn, h.wn, h.n1, h.nm, U64s_set g.u i, ?_, ?_, ?_⟩
  · simp only [lyC, setL, List.length_set]; exact g.elw
  · simp only [lyC, List.length_set]; exact g.elk
  · simp only [lyC, List.length_set]; exact g.elv
  · simp only [lyC, List.length_set]; exact g.elc
  · intro k hk
    simp only [lyC]
    rw [hseg]
    have e := cntW_set g.u hq hb (k * S) ((k + 1) * S)
    rw [getD_set_at, g.elc, e]
    by_cases hki : i / S = k
    · subst hki
      rw [if_pos ⟨rfl, hk⟩, if_pos ((seg_in h.s4).2 rfl), g.cnt _ hk]
      push_cast
      rfl
    · rw [if_neg (fun q => hki q.1), if_neg (fun q => hki ((seg_in h.s4).1 q)), g.cnt _ hk]
      simp
  · intro j hj
    simp only [lyC]
    rw [bitW_set g.u hq, g.hi j hj]
    simp
    omega
  · intro j hj
    simp only [lyC] at hj ⊢
    rw [bitW_set g.u hq] at hj
    have hji : ¬ i = j := by
      intro e
      subst e
      simp at hj
    rw [getD_set_at, getD_set_at, if_neg (fun q => hji q.1), if_neg (fun q => hji q.1)]
    apply g.clr
    simp only [Bool.or_eq_false_iff] at hj
    exact hj.1
theorem SlGd.tks {c : SlC} {S lw n lc lo : Nat} (h : SlGd c S lw n lc) : ∀ j, lo + j ≤ n → SlGd (tks c lo j) S lw n lc
  | 0, _ => h
  | j + 1, hj => (SlGd.tks h j (by omega)).tk (by omega)
theorem SlGd.lys {c : SlC} {S lw n lc : Nat} (h : SlGd c S lw n lc) {ps : List Nat} (hp : ∀ k, ps.getD k 0 < n) (L : List (Int × Int)) : ∀ k, SlGd (lys c ps L k) S lw n lc
  | 0 => h
  | k + 1 => (SlGd.lys h hp L k).ly (hp k) _ _
theorem slMay_gd {c : SlC} (hu : U64s c.ws) (h : slMay c = true) : ∃ S M : Nat, SlGd c S ((S * M + 63) / 64) (S * M) M ∧ pwB (S : Int) = true ∧ pwB (M : Int) = true ∧ 1 ≤ M := by
  have hm := h
  simp only [slMay, Bool.and_eq_true] at h
  obtain ⟨⟨h5, h6⟩, h7⟩ := h
  obtain ⟨S, M, e1, b1, b2, b3, b4, b5, b6, b7, b8, b9, p1, p2, b10⟩ := slHead_facts h5
  have hn1 : 1 ≤ S * M := Nat.mul_pos (by omega) b6
  refine ⟨S, M, ⟨e1, b9, b3, b4, b5, b1, b2, rfl, by omega, hn1, b7, hu, ?_, b10, ?_⟩, p1, p2, b6⟩
  · intro k hk
    have := List.all_eq_true.1 h7 k (List.mem_range.2 (by rw [b5]; exact hk))
    rw [beq_iff_eq, e1, Int.toNat_natCast] at this
    exact this
  · intro i hi
    rcases Nat.lt_or_ge i c.ks.length with q | q
    · have := List.all_eq_true.1 h6 i (List.mem_range.2 q)
      rw [hi, Bool.false_or, Bool.and_eq_true, beq_iff_eq, beq_iff_eq] at this
      exact this
    · rw [List.getD_eq_getElem?_getD, List.getD_eq_getElem?_getD, List.getElem?_eq_none q, List.getElem?_eq_none (by omega)]
      exact ⟨rfl, rfl⟩
def plF (n lo hi k : Nat) : Nat := lo + k * (hi - lo) / n
def plR (n lo hi : Nat) : List Nat := (List.range n).map (plF n lo hi)
theorem plR_length (n lo hi : Nat) : (plR n lo hi).length = n := by simp [plR]
theorem plR_get {n lo hi k : Nat} (h : k < n) : (plR n lo hi).getD k 0 = plF n lo hi k := by
  rw [List.getD_eq_getElem?_getD, plR, List.getElem?_map, List.getElem?_range h]
  rfl
theorem plF_lt {n lo hi k : Nat} (hk : k < n) (h : n ≤ hi - lo) : plF n lo hi k < hi := by
  unfold plF
  have : k * (hi - lo) / n < hi - lo := by
    rw [Nat.div_lt_iff_lt_mul (by omega), Nat.mul_comm]
    exact (Nat.mul_lt_mul_left (by omega)).2 hk
  omega
theorem plR_ltn {n lo hi N : Nat} (h : n ≤ hi - lo) (hh : hi ≤ N) (hN : 0 < N) (k : Nat) : (plR n lo hi).getD k 0 < N := by
  rcases Nat.lt_or_ge k n with q | q
  · rw [plR_get q]
    have := plF_lt (lo := lo) q h
    omega
  · rw [List.getD_eq_getElem?_getD, List.getElem?_eq_none (by rw [plR_length]; exact q)]
    exact hN
def spC (c : SlC) (lo hi : Nat) (L : List (Int × Int)) : SlC := lys (tks c lo (hi - lo)) (plR L.length lo hi) L L.length
theorem SlGd.sp {c : SlC} {S lw n lc lo hi : Nat} (h : SlGd c S lw n lc) (hlo : lo ≤ hi) (hh : hi ≤ n) {L : List (Int × Int)} (hL : L.length ≤ hi - lo) : SlGd (spC c lo hi L) S lw n lc :=
  SlGd.lys (h.tks (hi - lo) (by omega)) (fun k => plR_ltn hL hh (by have := h.n1; omega) k) L _
theorem zero_gd {S M lw : Nat} (h4 : 4 ≤ S) (h6 : S ≤ 64) (hM : 1 ≤ M) (hm : S * M ≤ 65536) (hl : lw = (S * M + 63) / 64) : SlGd (zeroSl S (S * M) lw M) S lw (S * M) M := by
  have z : ∀ m i, (List.replicate m (0 : Int)).getD i 0 = 0 := fun m i => by
    rw [List.getD_eq_getElem?_getD, List.getElem?_replicate]
    split <;> rfl
  have zb : ∀ i, bitW (zeroSl S (S * M) lw M).ws i = false := fun i => by
    rw [bitW, zeroSl]
    dsimp only
    rw [z]
    exact bitI_zero _
  have zc : ∀ a d, (List.range' a d).countP (bitW (zeroSl S (S * M) lw M).ws) = 0 := fun a d => by
    rw [List.countP_eq_zero]
    intro i _
    rw [zb i]
    decide
  have hn1 : 1 ≤ S * M := Nat.mul_pos (by omega) hM
  refine ⟨rfl, by simp [zeroSl], by simp [zeroSl], by simp [zeroSl], by simp [zeroSl], h4, h6, rfl, by omega, hn1, hm, ?_, ?_, fun i _ => zb i, ?_⟩
  · intro x hx
    obtain ⟨-, rfl⟩ := List.mem_replicate.1 hx
    omega
  · intro k hk
    rw [cntW, zc]
    simp only [zeroSl]
    rw [z]
    rfl
  · intro i _
    exact ⟨z _ _, z _ _⟩
end
end Go.Proofs.YtjhpblejlchhjaaGreat
