/- Merged: PrsIt, Prs. -/
import Derived.Test.YtjhpblejlchhjaaGreatOccAll
import Derived.Test.YtjhpblejlchhjaaGreatInvL
import Derived.Test.YtjhpblejlchhjaaGreatSlRef
import Derived.Test.YtjhpblejlchhjaaGreatRowAll
namespace Go.Proofs.YtjhpblejlchhjaaGreat
set_option maxRecDepth 100000
set_option maxHeartbeats 4000000
set_option linter.unusedVariables false
set_option linter.unusedSimpArgs false
section
open Go.RowKit Go.Shelf
attribute [local go_sem] Oper.semAt_some

theorem cntW_succ {ws : List Int} {a b : Nat} (h : a ≤ b) : cntW ws a (b + 1) = cntW ws a b + if bitW ws b = true then 1 else 0 := by
  rw [← plsW_length, ← plsW_length, plsW_succ h, List.length_append]
  split <;> rfl
theorem cntW_mono {ws : List Int} {a b c : Nat} (h : b ≤ c) : cntW ws a b ≤ cntW ws a c := by
  induction c with
  | zero => rw [show b = 0 by omega]; exact Nat.le_refl _
  | succ c ih =>
    by_cases e : b = c + 1
    · rw [e]; exact Nat.le_refl _
    · by_cases h2 : a ≤ c
      · rw [cntW_succ h2]
        have := ih (by omega)
        omega
      · rw [cntW_none (by omega)]; omega
theorem prs_length (c : SlC) (a b : Nat) : (prs c a b).length = cntW c.ws a b := by rw [prs, List.length_map, plsW_length]
theorem prs_succ {c : SlC} {a b : Nat} (h : a ≤ b) : prs c a (b + 1) = prs c a b ++ if bitW c.ws b = true then [(c.ks.getD b 0, c.vs.getD b 0)] else [] := by
  unfold prs
  rw [plsW_succ h, List.map_append]
  split <;> rfl
theorem prs_split {c : SlC} {a b d : Nat} (h1 : a ≤ b) (h2 : b ≤ d) : ∃ r, prs c a d = prs c a b ++ r := by
  induction d with
  | zero => exact ⟨[], by rw [show b = 0 by omega, List.append_nil]⟩
  | succ d ih =>
    by_cases e : b = d + 1
    · exact ⟨[], by rw [e, List.append_nil]⟩
    · obtain ⟨r, hr⟩ := ih (by omega)
      rw [prs_succ (by omega), hr, List.append_assoc]
      exact ⟨_, rfl⟩
def pairsL (l : List (Int × Int)) : List (Array Value) := l.map fun p => #[.agg #[.int .i64 p.1, .int .i64 p.2]]
theorem pairsL_length (l : List (Int × Int)) : (pairsL l).length = l.length := by simp [pairsL]
theorem pairsL_at {c : SlC} {a b d : Nat} (h1 : a ≤ b) (h2 : b + 1 ≤ d) (hb : bitW c.ws b = true) : (pairsL (prs c a d)).getD (cntW c.ws a b) #[] = #[.agg #[.int .i64 (c.ks.getD b 0), .int .i64 (c.vs.getD b 0)]] := by
  obtain ⟨r, hr⟩ := prs_split (c := c) (show a ≤ b + 1 by omega) h2
  rw [hr, prs_succ h1, if_pos hb, pairsL, List.map_append, List.map_append, List.getD_eq_getElem?_getD, List.append_assoc, List.getElem?_append_right (by rw [List.length_map, prs_length]; exact Nat.le_refl _)]
  rw [List.length_map, prs_length, Nat.sub_self]
  rfl
theorem cell_at_drew {W W' : World} (h : ∃ q, W' = W.drewN q) {p : Addr} {v : Value} (hc : W.cell? p = some v) : W'.cell? p = some v := by
  obtain ⟨q, rfl⟩ := h
  exact hc

theorem is_ok (wa : Option Addr) (lw wc : Nat) (ws : List Int) (hu : U64s ws) (i : Nat) (hlw : ws.length = lw) (hi : i / 64 < lw) (hi2 : i ≤ 1000000000000) (b : Nat) (w : World) (hw : IsRow .u64 w wa ws) (c1 : w.cell? ⟨b, 1, none⟩ = some (.slice wa lw wc)) :
    Calls Tryz.prog 81 #[.pointer (some ⟨b, 0, none⟩), .int .i64 i] w fun e w' => e = .returned (.bool (bitW ws i)) ∧ w = w' := by
  obtain ⟨bb, off, x, rfl, hx, hc, -⟩ := hw.get (i := i / 64) (by omega)
  have hg := hu.get (i / 64)
  rw [hx.out] at hg
  have hb : bitW ws i = bitI x (i % 64) := by rw [bitW, hx.out]
  have hand := bitI_and hg.1 hg.2 (i % 64)
  obtain ⟨q, hq⟩ : ∃ q, i / 64 = q := ⟨_, rfl⟩
  obtain ⟨r, hr⟩ : ∃ r, i % 64 = r := ⟨_, rfl⟩
  have hqI : (i : Int) / 64 = (q : Int) := by omega
  have hrI : (i : Int) % 64 = (r : Int) := by omega
  have hr64 : r < 64 := by omega
  rw [hr] at hand hb
  rw [hq] at hc hi
  rw [hb]
  generalize bitI x r = bt at *
  clear hx hb hw hu hq hr hlw
  cases bt with
  | true =>
    rw [if_pos rfl] at hand
    go_enter Tryz.func81, Tryz.ntmps81
    go_wp2
    go_ret
    exact ⟨rfl, rfl⟩
  | false =>
    rw [if_neg (by decide)] at hand
    go_enter Tryz.func81, Tryz.ntmps81
    go_wp2
    go_ret
    exact ⟨rfl, rfl⟩

structure PrBox (W : World) (b1 b2 b3 : Nat) (c : SlC) (a : SlA) (lo hi : Nat) : Prop where
  lo : W.cell? ⟨b1, 0, none⟩ = some (.int .i64 lo)
  hi : W.cell? ⟨b2, 0, none⟩ = some (.int .i64 hi)
  c0 : W.cell? ⟨b3, 0, none⟩ = some (.int .i64 c.seg)
  c1 : W.cell? ⟨b3, 1, none⟩ = some (.slice a.wa c.ws.length a.wc)
  c2 : W.cell? ⟨b3, 2, none⟩ = some (.slice a.ka c.ks.length a.kc)
  c3 : W.cell? ⟨b3, 3, none⟩ = some (.slice a.va c.vs.length a.vc)
  c4 : W.cell? ⟨b3, 4, none⟩ = some (.slice a.ca c.cs.length a.cc)
  c5 : W.cell? ⟨b3, 5, none⟩ = some (.int .u64 c.laid)
theorem PrBox.below {W W' : World} {b1 b2 b3 : Nat} {c : SlC} {a : SlA} {lo hi : Nat} (h : PrBox W b1 b2 b3 c a lo hi) (hb : Below W.heap.size W W') : PrBox W' b1 b2 b3 c a lo hi :=
  have t {p v} (hc : W.cell? p = some v) : W'.cell? p = some v := (hb.cell (World.block_lt_of_cell? _ _ hc)).trans hc
  ⟨t h.lo, t h.hi, t h.c0, t h.c1, t h.c2, t h.c3, t h.c4, t h.c5⟩
theorem PrBox.kept {S : Nat → Prop} {W W' : World} {b1 b2 b3 : Nat} {c : SlC} {a : SlA} {lo hi : Nat} (h : PrBox W b1 b2 b3 c a lo hi) (hk : KpS S W W') (s1 : S b1) (s2 : S b2) (s3 : S b3) : PrBox W' b1 b2 b3 c a lo hi :=
  ⟨hk.cell (a := ⟨b1, 0, none⟩) s1 h.lo, hk.cell (a := ⟨b2, 0, none⟩) s2 h.hi, hk.cell (a := ⟨b3, 0, none⟩) s3 h.c0, hk.cell (a := ⟨b3, 1, none⟩) s3 h.c1, hk.cell (a := ⟨b3, 2, none⟩) s3 h.c2, hk.cell (a := ⟨b3, 3, none⟩) s3 h.c3, hk.cell (a := ⟨b3, 4, none⟩) s3 h.c4, hk.cell (a := ⟨b3, 5, none⟩) s3 h.c5⟩
structure SlS (S : Nat → Prop) (c : SlC) (a : SlA) : Prop where
  w : ∀ x, a.wa = some x → 0 < c.ws.length → S x.block
  k : ∀ x, a.ka = some x → 0 < c.ks.length → S x.block
  v : ∀ x, a.va = some x → 0 < c.vs.length → S x.block

theorem pairs1_iter (c : SlC) (a : SlA) (hu : U64s c.ws) (lo hi : Nat) (hlh : lo ≤ hi) (hkn : hi ≤ c.ks.length) (hvn : c.vs.length = c.ks.length) (hwn : c.ks.length ≤ 64 * c.ws.length) (hn : c.ks.length ≤ 65536) (S : Nat → Prop) (b1 b2 b3 : Nat) (s1 : S b1) (s2 : S b2) (s3 : S b3) (hS : SlS S c a)
    (w : World) (hw : IsRow .u64 w a.wa c.ws) (hk : IsRow .i64 w a.ka c.ks) (hv : IsRow .i64 w a.va c.vs) (hbx : PrBox w b1 b2 b3 c a lo hi) :
    Iter Tryz.prog 80 #[.pointer (some ⟨b1, 0, none⟩), .pointer (some ⟨b2, 0, none⟩), .pointer (some ⟨b3, 0, none⟩)] (pairsL (prs c lo hi)) (KpS S) w := by
  intro l J Jx W hW hJ hJx hY h0
  have HY := Lib.hid hY
  have HJ := Lib.hid hJ
  have HBX := Lib.hid (hbx.below hW)
  have HW := Lib.hid (hw.below hW)
  have HK := Lib.hid (hk.below hW)
  have HV := Lib.hid (hv.below hW)
  have HS := Lib.hid hS
  have HPL := Lib.hid ((pairsL_length _).trans (prs_length c lo hi))
  have HPA := Lib.hid (fun b (h1 : lo ≤ b) (h2 : b + 1 ≤ hi) hb => pairsL_at (c := c) h1 h2 hb)
  have HCS := Lib.hid (fun b (h1 : lo ≤ b) => cntW_succ (ws := c.ws) h1)
  have HCM := Lib.hid (fun b (h1 : b ≤ hi) => cntW_mono (ws := c.ws) (a := lo) h1)
  have HC0 := Lib.hid (cntW_none (ws := c.ws) (Nat.le_refl lo))
  clear hY hJ hJx hw hk hv hS hbx
  refine callsIn_of_wp Tryz.func80 rfl trivial ?_ rfl
  simp only [Tryz.ntmps80, List.size_toArray, List.length_cons, List.length_nil, Nat.reduceAdd, Nat.reduceSub, Array.replicate_succ, Array.replicate_zero, List.push_toArray, List.append_toArray, List.nil_append, List.cons_append]
  have q1 := HBX.out.lo
  gi_wp2
  gi_loopg [5] (hi - lo) (fun g iv wr => ∃ i : Nat, i + g = hi ∧ lo ≤ i ∧ iv = .int .i64 i ∧ Hid (J (cntW c.ws lo i) wr) ∧ Hid (PrBox wr b1 b2 b3 c a lo hi) ∧ Hid (IsRow .u64 wr a.wa c.ws) ∧ Hid (IsRow .i64 wr a.ka c.ks) ∧ Hid (IsRow .i64 wr a.va c.vs))
  case atStart => exact ⟨lo, by omega, Nat.le_refl _, rfl, Lib.hid (by rw [HC0.out]; exact h0), HBX, HW, HK, HV⟩
  case round =>
    obtain ⟨i, hi', hli, rfl, HJ0, HB, HRW, HRK, HRV⟩ := hrel
    by_cases hlt : i < hi
    · obtain ⟨bw, ow, x, hae, -, cw, zw⟩ := HRW.out.get (i := i / 64) (by omega)
      obtain ⟨bk, ok, kx, hke, hkx, ck, zk⟩ := HRK.out.get (i := i) (by omega)
      obtain ⟨bv, ov, vx, hve, hvx, cv, zv⟩ := HRV.out.get (i := i) (by omega)
      have hpa := HPA.out i hli (by omega)
      rw [hkx.out, hvx.out] at hpa
      have hcs := HCS.out i hli
      obtain ⟨k, hk⟩ : ∃ k, cntW c.ws lo i = k := ⟨_, rfl⟩
      obtain ⟨m, hm⟩ : ∃ m, cntW c.ws lo hi = m := ⟨_, rfl⟩
      have hkm : bitW c.ws i = true → k < m := by
        intro hb
        have h1 := HCM.out (i + 1) (by omega)
        rw [hcs, if_pos hb] at h1
        omega
      rw [hk] at HJ0 hpa hcs
      have HPL2 := Lib.hid (HPL.out.trans hm)
      have hiw : i / 64 < c.ws.length := by omega
      obtain ⟨bt, hbt⟩ : ∃ bt, bitW c.ws i = bt := ⟨_, rfl⟩
      have hisok := fun W' (hw : IsRow .u64 W' a.wa c.ws) b (h1 : W'.cell? ⟨b, 1, none⟩ = some (.slice a.wa c.ws.length a.wc)) => is_ok a.wa c.ws.length a.wc c.ws hu i rfl hiw (by omega) b W' hw h1
      rw [hbt] at hisok hpa hcs hkm
      have HIO := Lib.hid hisok
      have HB0 := HB.out
      obtain ⟨q1, q2, c0, c1, c2, c3, c4, c5⟩ := HB0
      have HNW := Lib.hid hiw
      obtain ⟨seg, ws, ks, vs, cs, laid⟩ := c
      obtain ⟨wa, ka, va, ca, wc, kc, vc, cc⟩ := a
      dsimp only at *
      subst hae hke hve
      obtain ⟨n, hnn⟩ : ∃ n, ks.length = n := ⟨_, rfl⟩
      have c3' := c3
      rw [hvn, hnn] at c3'
      have c2' := c2
      rw [hnn] at c2'
      have hin : i < n := by omega
      have HI2 := Lib.hid hi'
      have HKM := Lib.hid hkm
      have HCS2 := Lib.hid hcs
      have HRW2 := Lib.hid (HRW.out.alloc (.cells #[.int .i64 seg, .slice (some ⟨bw, ow, none⟩) ws.length wc, .slice (some ⟨bk, ok, none⟩) ks.length kc, .slice (some ⟨bv, ov, none⟩) vs.length vc, .slice ca cs.length cc, .int .u64 laid] 127))
      clear hk hm hcs hkm
      gi_wp2
      have HBel : Below wr.heap.size wr (wr.alloc (.cells #[.int .i64 seg, .slice (some ⟨bw, ow, none⟩) ws.length wc, .slice (some ⟨bk, ok, none⟩) n kc, .slice (some ⟨bv, ov, none⟩) n vc, .slice ca cs.length cc, .int .u64 laid] 127)) := (Below.refl _ _).alloc (Nat.le_refl _) _
      have c1q : (wr.alloc (.cells #[.int .i64 seg, .slice (some ⟨bw, ow, none⟩) ws.length wc, .slice (some ⟨bk, ok, none⟩) n kc, .slice (some ⟨bv, ov, none⟩) n vc, .slice ca cs.length cc, .int .u64 laid] 127)).cell? ⟨wr.heap.size, 1, none⟩ = some (.slice (some ⟨bw, ow, none⟩) ws.length wc) := by (exact xcw)
      generalize (wr.alloc (.cells #[.int .i64 seg, .slice (some ⟨bw, ow, none⟩) ws.length wc, .slice (some ⟨bk, ok, none⟩) n kc, .slice (some ⟨bv, ov, none⟩) n vc, .slice ca cs.length cc, .int .u64 laid] 127)) = wq at *
      replace c2 := (HBel.cell (World.block_lt_of_cell? _ _ c2')).trans c2'
      replace c3 := (HBel.cell (World.block_lt_of_cell? _ _ c3')).trans c3'
      replace ck := (HBel.cell (World.block_lt_of_cell? _ _ ck)).trans ck
      replace cv := (HBel.cell (World.block_lt_of_cell? _ _ cv)).trans cv
      have HBL := Lib.hid HBel
      have HIS := Lib.hid (fun w' (hJ : ∃ q, w' = wq.drewN q) => HIO.out w' (by obtain ⟨q, rfl⟩ := hJ; exact (HRW.out.below HBL.out).drewN q) wr.heap.size (cell_at_drew hJ c1q))
      clear HBel c0 c5 c4 c1 q1 q2 c2' c3' hisok cw HRW2
      cases bt with
      | true =>
        refine wpIn_region_facts 15 (by kernel_rfl) (N := 33) rfl (by kernel_rfl) (by kernel_rfl) (by decide) (fun w' => ∃ q, w' = wq.drewN q) (Ext 29) (factAt [.is (.int .i64 i), .is (.bool true), .is (.bool true), .is (.func (.yield l) #[] #[]), .is (.pointer (some ⟨b3, 2, none⟩)), .is (.slice (some ⟨bk, ok, none⟩) n kc), .is (.int .i64 i), .is (.pointer (some ⟨bk, ok + i, none⟩)), .is (.int .i64 kx), .is (.pointer (some ⟨b3, 3, none⟩)), .is (.slice (some ⟨bv, ov, none⟩) n vc), .is (.int .i64 i), .is (.pointer (some ⟨bv, ov + i, none⟩)), .is (.int .i64 vx), .is (.agg #[.int .i64 kx, .int .i64 vx])]) (factAt_stays _) ⟨1, rfl⟩ ?steps ?fin
        case steps =>
          refine ⟨?o0, ?o1, ?o2, ?o3, ?o4, ?o5, ?o6, ?o7, ?o8, ?o9, ?o10, ?o11, ?o12, ?o13, ?o14, trivial⟩
          case o0 =>
            intro u a w' ev hJ hd K hK
            rw [if_pos (wanted_free rfl)]
            have e5 : a.tmps.getD 5 undef = .int .i64 i := ev 5 (by decide)
            have HK := Lib.hid hK
            clear hK ev hd
            go_simp
            exact HK.out _ _ (fun h => by cases h) hJ rfl (Ext.refl _ _)
          case o1 =>
            intro u a w' ev hJ hd K hK
            rw [if_pos (wanted_free rfl)]
            have e6 : a.tmps.getD 6 undef = .pointer (some ⟨wr.heap.size, 0, none⟩) := ev 6 (by decide)
            have e15 : a.tmps.getD 15 undef = .int .i64 i := (ev 15 (by decide)).trans (hd 0 _ (by kernel_rfl) rfl)
            have HK := Lib.hid hK
            have HI := Lib.hid (HIS.out w' hJ)
            have HJ := Lib.hid hJ
            clear hK ev hd hJ
            go_simp
            refine ⟨trivial, rfl, (callsIn_wide.2 HI.out).mono ?_⟩
            rintro e w'' ⟨rfl, rfl⟩
            exact HK.out _ _ (fun h => by cases h) HJ.out rfl (Ext.refl _ _)
          case o2 =>
            intro u a w' ev hJ hd K hK
            rw [if_pos (wanted_free rfl)]
            have e16 : a.tmps.getD 16 undef = .bool true := (ev 16 (by decide)).trans (hd 1 _ (by kernel_rfl) rfl)
            have HK := Lib.hid hK
            clear hK ev hd
            go_simp
            exact HK.out _ _ (fun h => by cases h) hJ rfl (Ext.refl _ _)
          case o3 =>
            intro u a w' ev hJ hd K hK
            have eg : a.tmps.getD 17 undef = .bool true := (ev 17 (by decide)).trans (hd 2 _ (by kernel_rfl) rfl)
            rw [if_pos (wanted_yes (j := 2) (t := 17) (b := true) rfl (by kernel_rfl) eg)]
            have e0 : a.tmps.getD 0 undef = .func (.yield l) #[] #[] := ev 0 (by decide)
            have HK := Lib.hid hK
            clear hK ev hd eg
            go_simp
            exact HK.out _ _ (fun h => by cases h) hJ rfl (Ext.refl _ _)
          case o4 =>
            intro u a w' ev hJ hd K hK
            have eg : a.tmps.getD 17 undef = .bool true := (ev 17 (by decide)).trans (hd 2 _ (by kernel_rfl) rfl)
            rw [if_pos (wanted_yes (j := 2) (t := 17) (b := true) rfl (by kernel_rfl) eg)]
            have e3 : a.tmps.getD 3 undef = .pointer (some ⟨b3, 0, none⟩) := ev 3 (by decide)
            have HK := Lib.hid hK
            clear hK ev hd eg
            go_simp
            exact HK.out _ _ (fun h => by cases h) hJ rfl (Ext.refl _ _)
          case o5 =>
            intro u a w' ev hJ hd K hK
            have eg : a.tmps.getD 17 undef = .bool true := (ev 17 (by decide)).trans (hd 2 _ (by kernel_rfl) rfl)
            rw [if_pos (wanted_yes (j := 2) (t := 17) (b := true) rfl (by kernel_rfl) eg)]
            have e19 : a.tmps.getD 19 undef = .pointer (some ⟨b3, 2, none⟩) := (ev 19 (by decide)).trans (hd 4 _ (by kernel_rfl) rfl)
            have g0 := (cell_at_drew hJ c2)
            have HK := Lib.hid hK
            clear hK ev hd eg
            go_simp
            exact HK.out _ _ (fun h => by cases h) hJ rfl (Ext.refl _ _)
          case o6 =>
            intro u a w' ev hJ hd K hK
            have eg : a.tmps.getD 17 undef = .bool true := (ev 17 (by decide)).trans (hd 2 _ (by kernel_rfl) rfl)
            rw [if_pos (wanted_yes (j := 2) (t := 17) (b := true) rfl (by kernel_rfl) eg)]
            have e5 : a.tmps.getD 5 undef = .int .i64 i := ev 5 (by decide)
            have HK := Lib.hid hK
            clear hK ev hd eg
            go_simp
            exact HK.out _ _ (fun h => by cases h) hJ rfl (Ext.refl _ _)
          case o7 =>
            intro u a w' ev hJ hd K hK
            have eg : a.tmps.getD 17 undef = .bool true := (ev 17 (by decide)).trans (hd 2 _ (by kernel_rfl) rfl)
            rw [if_pos (wanted_yes (j := 2) (t := 17) (b := true) rfl (by kernel_rfl) eg)]
            have e20 : a.tmps.getD 20 undef = .slice (some ⟨bk, ok, none⟩) n kc := (ev 20 (by decide)).trans (hd 5 _ (by kernel_rfl) rfl)
            have e21 : a.tmps.getD 21 undef = .int .i64 i := (ev 21 (by decide)).trans (hd 6 _ (by kernel_rfl) rfl)
            have HK := Lib.hid hK
            clear hK ev hd eg
            go_simp
            exact HK.out _ _ (fun h => by cases h) hJ rfl (Ext.refl _ _)
          case o8 =>
            intro u a w' ev hJ hd K hK
            have eg : a.tmps.getD 17 undef = .bool true := (ev 17 (by decide)).trans (hd 2 _ (by kernel_rfl) rfl)
            rw [if_pos (wanted_yes (j := 2) (t := 17) (b := true) rfl (by kernel_rfl) eg)]
            have e22 : a.tmps.getD 22 undef = .pointer (some ⟨bk, ok + i, none⟩) := (ev 22 (by decide)).trans (hd 7 _ (by kernel_rfl) rfl)
            have g0 := (cell_at_drew hJ ck)
            have HK := Lib.hid hK
            clear hK ev hd eg
            go_simp
            exact HK.out _ _ (fun h => by cases h) hJ rfl (Ext.refl _ _)
          case o9 =>
            intro u a w' ev hJ hd K hK
            have eg : a.tmps.getD 17 undef = .bool true := (ev 17 (by decide)).trans (hd 2 _ (by kernel_rfl) rfl)
            rw [if_pos (wanted_yes (j := 2) (t := 17) (b := true) rfl (by kernel_rfl) eg)]
            have e3 : a.tmps.getD 3 undef = .pointer (some ⟨b3, 0, none⟩) := ev 3 (by decide)
            have HK := Lib.hid hK
            clear hK ev hd eg
            go_simp
            exact HK.out _ _ (fun h => by cases h) hJ rfl (Ext.refl _ _)
          case o10 =>
            intro u a w' ev hJ hd K hK
            have eg : a.tmps.getD 17 undef = .bool true := (ev 17 (by decide)).trans (hd 2 _ (by kernel_rfl) rfl)
            rw [if_pos (wanted_yes (j := 2) (t := 17) (b := true) rfl (by kernel_rfl) eg)]
            have e24 : a.tmps.getD 24 undef = .pointer (some ⟨b3, 3, none⟩) := (ev 24 (by decide)).trans (hd 9 _ (by kernel_rfl) rfl)
            have g0 := (cell_at_drew hJ c3)
            have HK := Lib.hid hK
            clear hK ev hd eg
            go_simp
            exact HK.out _ _ (fun h => by cases h) hJ rfl (Ext.refl _ _)
          case o11 =>
            intro u a w' ev hJ hd K hK
            have eg : a.tmps.getD 17 undef = .bool true := (ev 17 (by decide)).trans (hd 2 _ (by kernel_rfl) rfl)
            rw [if_pos (wanted_yes (j := 2) (t := 17) (b := true) rfl (by kernel_rfl) eg)]
            have e5 : a.tmps.getD 5 undef = .int .i64 i := ev 5 (by decide)
            have HK := Lib.hid hK
            clear hK ev hd eg
            go_simp
            exact HK.out _ _ (fun h => by cases h) hJ rfl (Ext.refl _ _)
          case o12 =>
            intro u a w' ev hJ hd K hK
            have eg : a.tmps.getD 17 undef = .bool true := (ev 17 (by decide)).trans (hd 2 _ (by kernel_rfl) rfl)
            rw [if_pos (wanted_yes (j := 2) (t := 17) (b := true) rfl (by kernel_rfl) eg)]
            have e25 : a.tmps.getD 25 undef = .slice (some ⟨bv, ov, none⟩) n vc := (ev 25 (by decide)).trans (hd 10 _ (by kernel_rfl) rfl)
            have e26 : a.tmps.getD 26 undef = .int .i64 i := (ev 26 (by decide)).trans (hd 11 _ (by kernel_rfl) rfl)
            have HK := Lib.hid hK
            clear hK ev hd eg
            go_simp
            exact HK.out _ _ (fun h => by cases h) hJ rfl (Ext.refl _ _)
          case o13 =>
            intro u a w' ev hJ hd K hK
            have eg : a.tmps.getD 17 undef = .bool true := (ev 17 (by decide)).trans (hd 2 _ (by kernel_rfl) rfl)
            rw [if_pos (wanted_yes (j := 2) (t := 17) (b := true) rfl (by kernel_rfl) eg)]
            have e27 : a.tmps.getD 27 undef = .pointer (some ⟨bv, ov + i, none⟩) := (ev 27 (by decide)).trans (hd 12 _ (by kernel_rfl) rfl)
            have g0 := (cell_at_drew hJ cv)
            have HK := Lib.hid hK
            clear hK ev hd eg
            go_simp
            exact HK.out _ _ (fun h => by cases h) hJ rfl (Ext.refl _ _)
          case o14 =>
            intro u a w' ev hJ hd K hK
            have eg : a.tmps.getD 17 undef = .bool true := (ev 17 (by decide)).trans (hd 2 _ (by kernel_rfl) rfl)
            rw [if_pos (wanted_yes (j := 2) (t := 17) (b := true) rfl (by kernel_rfl) eg)]
            have e23 : a.tmps.getD 23 undef = .int .i64 kx := (ev 23 (by decide)).trans (hd 8 _ (by kernel_rfl) rfl)
            have e28 : a.tmps.getD 28 undef = .int .i64 vx := (ev 28 (by decide)).trans (hd 13 _ (by kernel_rfl) rfl)
            have f23 : a.tmps[23]?.getD undef = .int .i64 kx := by rw [← Array.getD_eq_getD_getElem?]; exact e23
            have f28 : a.tmps[28]?.getD undef = .int .i64 vx := by rw [← Array.getD_eq_getD_getElem?]; exact e28
            have HK := Lib.hid hK
            clear hK ev hd eg
            go_simp
            exact HK.out _ _ (fun h => by cases h) hJ rfl (Ext.refl _ _)
        case fin =>
          intro u w3 hJ hG
          have h17 : u 17 = .bool true := hG 2 _ rfl
          have h18 : u 18 = .func (.yield l) #[] #[] := hG 3 _ rfl
          have h29 : u 29 = .agg #[.int .i64 kx, .int .i64 vx] := hG 14 _ rfl
          have hBq : Below wr.heap.size wr w3 := by obtain ⟨q, rfl⟩ := hJ; exact below_drewN HBL.out q
          have HBQ := Lib.hid hBq
          have hkm := HKM.out rfl
          obtain ⟨fn, tmps, assign, body, hy, hR⟩ := HY.out k w3 (by rw [HPL2.out]; exact hkm) (HJ.out _ _ _ HJ0.out hBq)
          rw [hpa rfl] at hy
          clear hG c2 c3 ck cv hJ hpa hBq
          simp only [mixFrame, mixL, dstsOf, List.take_succ_cons, List.take_zero, List.filterMap_cons, List.filterMap_nil, List.contains_cons, List.contains_nil, Nat.reduceBEq, Bool.or_false, Bool.false_or, Bool.or_true, Bool.true_or, if_true, if_false, Bool.false_eq_true, Nat.reduceAdd, Nat.zero_add, List.drop_succ_cons, List.drop_zero, h17, h18, h29]
          gi_wp2
          refine ⟨rfl, hR.mono ?_⟩
          rintro e W3 (⟨rfl, hJ3, hk3⟩ | ⟨rfl, hJx3⟩)
          · have HB3 := Lib.hid ((HB.out.below HBQ.out).kept hk3 s1 s2 s3)
            have HW3 := Lib.hid (hk3.row HS.out.w (HRW.out.below HBQ.out))
            have HK3 := Lib.hid (hk3.row HS.out.k (HRK.out.below HBQ.out))
            have HV3 := Lib.hid (hk3.row HS.out.v (HRV.out.below HBQ.out))
            have HJ3 := Lib.hid hJ3
            clear hJ3 hk3 hy hR
            gi_wp2
            gi_roundg (gk - 1)
            case measure => have := HI2.out; omega
            case rel =>
              refine ⟨i + 1, by have := HI2.out; omega, by omega, by go_num, Lib.hid ?_, HB3, HW3, HK3, HV3⟩
              have e9 := HCS2.out
              simp only [if_true] at e9
              rw [e9]
              exact HJ3.out
          · have HJ3 := Lib.hid hJx3
            clear hJx3 hy hR
            gi_wp2
            exact bodyPost_ret (results_none rfl _ _ _) rfl ⟨⟨_, rfl⟩, .inr ⟨k + 1, by rw [HPL2.out]; omega, HJ3.out⟩⟩
      | false =>
        refine wpIn_region_facts 15 (by kernel_rfl) (N := 33) rfl (by kernel_rfl) (by kernel_rfl) (by decide) (fun w' => ∃ q, w' = wq.drewN q) (Ext 29) (factAt [.is (.int .i64 i), .is (.bool false), .is (.bool false), .is undef, .is undef, .is undef, .is undef, .is undef, .is undef, .is undef, .is undef, .is undef, .is undef, .is undef, .is undef]) (factAt_stays _) ⟨1, rfl⟩ ?steps ?fin
        case steps =>
          refine ⟨?o0, ?o1, ?o2, ?o3, ?o4, ?o5, ?o6, ?o7, ?o8, ?o9, ?o10, ?o11, ?o12, ?o13, ?o14, trivial⟩
          case o0 =>
            intro u a w' ev hJ hd K hK
            rw [if_pos (wanted_free rfl)]
            have e5 : a.tmps.getD 5 undef = .int .i64 i := ev 5 (by decide)
            have HK := Lib.hid hK
            clear hK ev hd
            go_simp
            exact HK.out _ _ (fun h => by cases h) hJ rfl (Ext.refl _ _)
          case o1 =>
            intro u a w' ev hJ hd K hK
            rw [if_pos (wanted_free rfl)]
            have e6 : a.tmps.getD 6 undef = .pointer (some ⟨wr.heap.size, 0, none⟩) := ev 6 (by decide)
            have e15 : a.tmps.getD 15 undef = .int .i64 i := (ev 15 (by decide)).trans (hd 0 _ (by kernel_rfl) rfl)
            have HK := Lib.hid hK
            have HI := Lib.hid (HIS.out w' hJ)
            have HJ := Lib.hid hJ
            clear hK ev hd hJ
            go_simp
            refine ⟨trivial, rfl, (callsIn_wide.2 HI.out).mono ?_⟩
            rintro e w'' ⟨rfl, rfl⟩
            exact HK.out _ _ (fun h => by cases h) HJ.out rfl (Ext.refl _ _)
          case o2 =>
            intro u a w' ev hJ hd K hK
            rw [if_pos (wanted_free rfl)]
            have e16 : a.tmps.getD 16 undef = .bool false := (ev 16 (by decide)).trans (hd 1 _ (by kernel_rfl) rfl)
            have HK := Lib.hid hK
            clear hK ev hd
            go_simp
            exact HK.out _ _ (fun h => by cases h) hJ rfl (Ext.refl _ _)
          case o3 =>
            intro u a w' ev hJ hd K hK
            have eg : a.tmps.getD 17 undef = .bool false := (ev 17 (by decide)).trans (hd 2 _ (by kernel_rfl) rfl)
            rw [if_neg (by rw [wanted_no (j := 2) (t := 17) (b := true) rfl (by kernel_rfl) eg]; decide)]
            exact ⟨fun _ _ => trivial, hK _ _ (fun h => by cases h) hJ rfl (Ext.refl _ _)⟩
          case o4 =>
            intro u a w' ev hJ hd K hK
            have eg : a.tmps.getD 17 undef = .bool false := (ev 17 (by decide)).trans (hd 2 _ (by kernel_rfl) rfl)
            rw [if_neg (by rw [wanted_no (j := 2) (t := 17) (b := true) rfl (by kernel_rfl) eg]; decide)]
            exact ⟨fun _ _ => trivial, hK _ _ (fun h => by cases h) hJ rfl (Ext.refl _ _)⟩
          case o5 =>
            intro u a w' ev hJ hd K hK
            have eg : a.tmps.getD 17 undef = .bool false := (ev 17 (by decide)).trans (hd 2 _ (by kernel_rfl) rfl)
            rw [if_neg (by rw [wanted_no (j := 2) (t := 17) (b := true) rfl (by kernel_rfl) eg]; decide)]
            exact ⟨fun _ _ => trivial, hK _ _ (fun h => by cases h) hJ rfl (Ext.refl _ _)⟩
          case o6 =>
            intro u a w' ev hJ hd K hK
            have eg : a.tmps.getD 17 undef = .bool false := (ev 17 (by decide)).trans (hd 2 _ (by kernel_rfl) rfl)
            rw [if_neg (by rw [wanted_no (j := 2) (t := 17) (b := true) rfl (by kernel_rfl) eg]; decide)]
            exact ⟨fun _ _ => trivial, hK _ _ (fun h => by cases h) hJ rfl (Ext.refl _ _)⟩
          case o7 =>
            intro u a w' ev hJ hd K hK
            have eg : a.tmps.getD 17 undef = .bool false := (ev 17 (by decide)).trans (hd 2 _ (by kernel_rfl) rfl)
            rw [if_neg (by rw [wanted_no (j := 2) (t := 17) (b := true) rfl (by kernel_rfl) eg]; decide)]
            exact ⟨fun _ _ => trivial, hK _ _ (fun h => by cases h) hJ rfl (Ext.refl _ _)⟩
          case o8 =>
            intro u a w' ev hJ hd K hK
            have eg : a.tmps.getD 17 undef = .bool false := (ev 17 (by decide)).trans (hd 2 _ (by kernel_rfl) rfl)
            rw [if_neg (by rw [wanted_no (j := 2) (t := 17) (b := true) rfl (by kernel_rfl) eg]; decide)]
            exact ⟨fun _ _ => trivial, hK _ _ (fun h => by cases h) hJ rfl (Ext.refl _ _)⟩
          case o9 =>
            intro u a w' ev hJ hd K hK
            have eg : a.tmps.getD 17 undef = .bool false := (ev 17 (by decide)).trans (hd 2 _ (by kernel_rfl) rfl)
            rw [if_neg (by rw [wanted_no (j := 2) (t := 17) (b := true) rfl (by kernel_rfl) eg]; decide)]
            exact ⟨fun _ _ => trivial, hK _ _ (fun h => by cases h) hJ rfl (Ext.refl _ _)⟩
          case o10 =>
            intro u a w' ev hJ hd K hK
            have eg : a.tmps.getD 17 undef = .bool false := (ev 17 (by decide)).trans (hd 2 _ (by kernel_rfl) rfl)
            rw [if_neg (by rw [wanted_no (j := 2) (t := 17) (b := true) rfl (by kernel_rfl) eg]; decide)]
            exact ⟨fun _ _ => trivial, hK _ _ (fun h => by cases h) hJ rfl (Ext.refl _ _)⟩
          case o11 =>
            intro u a w' ev hJ hd K hK
            have eg : a.tmps.getD 17 undef = .bool false := (ev 17 (by decide)).trans (hd 2 _ (by kernel_rfl) rfl)
            rw [if_neg (by rw [wanted_no (j := 2) (t := 17) (b := true) rfl (by kernel_rfl) eg]; decide)]
            exact ⟨fun _ _ => trivial, hK _ _ (fun h => by cases h) hJ rfl (Ext.refl _ _)⟩
          case o12 =>
            intro u a w' ev hJ hd K hK
            have eg : a.tmps.getD 17 undef = .bool false := (ev 17 (by decide)).trans (hd 2 _ (by kernel_rfl) rfl)
            rw [if_neg (by rw [wanted_no (j := 2) (t := 17) (b := true) rfl (by kernel_rfl) eg]; decide)]
            exact ⟨fun _ _ => trivial, hK _ _ (fun h => by cases h) hJ rfl (Ext.refl _ _)⟩
          case o13 =>
            intro u a w' ev hJ hd K hK
            have eg : a.tmps.getD 17 undef = .bool false := (ev 17 (by decide)).trans (hd 2 _ (by kernel_rfl) rfl)
            rw [if_neg (by rw [wanted_no (j := 2) (t := 17) (b := true) rfl (by kernel_rfl) eg]; decide)]
            exact ⟨fun _ _ => trivial, hK _ _ (fun h => by cases h) hJ rfl (Ext.refl _ _)⟩
          case o14 =>
            intro u a w' ev hJ hd K hK
            have eg : a.tmps.getD 17 undef = .bool false := (ev 17 (by decide)).trans (hd 2 _ (by kernel_rfl) rfl)
            rw [if_neg (by rw [wanted_no (j := 2) (t := 17) (b := true) rfl (by kernel_rfl) eg]; decide)]
            exact ⟨fun _ _ => trivial, hK _ _ (fun h => by cases h) hJ rfl (Ext.refl _ _)⟩
        case fin =>
          intro u w3 hJ hG
          have h17 : u 17 = .bool false := hG 2 _ rfl
          have h18 : u 18 = undef := hG 3 _ rfl
          have h29 : u 29 = undef := hG 14 _ rfl
          have hBq : Below wr.heap.size wr w3 := by obtain ⟨q, rfl⟩ := hJ; exact below_drewN HBL.out q
          have HBQ := Lib.hid hBq
          clear hG c2 c3 ck cv hJ hpa hBq
          simp only [mixFrame, mixL, dstsOf, List.take_succ_cons, List.take_zero, List.filterMap_cons, List.filterMap_nil, List.contains_cons, List.contains_nil, Nat.reduceBEq, Bool.or_false, Bool.false_or, Bool.or_true, Bool.true_or, if_true, if_false, Bool.false_eq_true, Nat.reduceAdd, Nat.zero_add, List.drop_succ_cons, List.drop_zero, h17, h18, h29]
          gi_wp2
          refine ⟨fun _ h => (by cases h), ?_⟩
          gi_wp2
          gi_roundg (gk - 1)
          case measure => have := HI2.out; omega
          case rel =>
            refine ⟨i + 1, by have := HI2.out; omega, by omega, by go_num, Lib.hid ?_, Lib.hid (HB.out.below HBQ.out), Lib.hid (HRW.out.below HBQ.out), Lib.hid (HRK.out.below HBQ.out), Lib.hid (HRV.out.below HBQ.out)⟩
            have e9 := HCS2.out
            simp only [Bool.false_eq_true, if_false, Nat.add_zero] at e9
            rw [e9]
            exact HJ.out _ _ _ HJ0.out HBQ.out
    · have hih : hi = i := by omega
      subst hih
      have q1 := HB.out.hi
      have HJ1 := HJ0.out
      gi_wp2
      refine bodyPost_end (results_none rfl _ _ _) rfl ⟨⟨_, rfl⟩, .inl ?_⟩
      rw [HPL.out]
      exact HJ0.out
end

section
open Go.RowKit Go.Shelf
attribute [local go_sem] Oper.semAt_some

theorem info_Pair : (Tryz.prog.info? 71).map (fun i => (i.zero, i.size, i.bytes)) = some (some (.agg #[.int .i64 0, .int .i64 0]), 2, 16) := by kernel_rfl
def prI (l : List (Int × Int)) : List Int := l.flatMap fun p => [p.1, p.2]
theorem prI_append (a b : List (Int × Int)) : prI (a ++ b) = prI a ++ prI b := by simp [prI]
theorem prI_length (l : List (Int × Int)) : (prI l).length = l.length * 2 := by
  induction l with
  | nil => rfl
  | cons p r ih => rw [show prI (p :: r) = [p.1, p.2] ++ prI r from rfl, List.length_append, ih]; simp; omega
theorem prI_get {l : List (Int × Int)} {i : Nat} (h : i < l.length) : (prI l).getD (i * 2) 0 = (l.getD i (0, 0)).1 ∧ (prI l).getD (i * 2 + 1) 0 = (l.getD i (0, 0)).2 := by
  induction l generalizing i with
  | nil => simp at h
  | cons p r ih =>
    rw [show prI (p :: r) = p.1 :: p.2 :: prI r from rfl]
    cases i with
    | zero => simp
    | succ i =>
      have := ih (i := i) (by simpa using h)
      rw [show (i + 1) * 2 = i * 2 + 1 + 1 by omega, show i * 2 + 1 + 1 + 1 = (i * 2 + 1) + 1 + 1 by omega]
      simp only [List.getD_cons_succ]
      exact this
def FreshPr (w : World) (l : List (Int × Int)) (e : Ending) (w' : World) : Prop :=
  ∃ v, e = .returned v ∧ w'.ownsRow w.heap.size 71 2 v l.length ((prI l).map (Value.int .i64)) ∧ Below w.heap.size w w'
def FreshPr2 (w : World) (l : List (Int × Int)) (x : Value) (e : Ending) (w' : World) : Prop :=
  ∃ v, e = .returned (.tuple #[v, x]) ∧ w'.ownsRow w.heap.size 71 2 v l.length ((prI l).map (Value.int .i64)) ∧ Below w.heap.size w w'
theorem pairsL_get {l : List (Int × Int)} {k : Nat} (h : k < l.length) : (pairsL l).getD k #[] = #[.agg #[.int .i64 (l.getD k (0, 0)).1, .int .i64 (l.getD k (0, 0)).2]] := by
  rw [List.getD_eq_getElem?_getD, pairsL, List.getElem?_map, List.getElem?_eq_getElem h]
  simp [List.getD_eq_getElem?_getD, List.getElem?_eq_getElem h]
theorem take_succ_pr {l : List (Int × Int)} {k : Nat} (h : k < l.length) : l.take (k + 1) = l.take k ++ [((l.getD k (0, 0)).1, (l.getD k (0, 0)).2)] := by
  rw [List.take_succ_eq_append_getElem h]
  have e : l.getD k (0, 0) = l[k] := by simp [List.getD_eq_getElem?_getD, List.getElem?_eq_getElem h]
  rw [e]
theorem own_isCells {w : World} {B : Nat} {e : TypeId} {s : Nat} {v : Value} {n : Nat} {xs : List Value} (h : w.ownsRow B e s v n xs) : ∀ (j : Nat) (o : Obj), v.ownBlock = some j → w.heap[j]? = some o → o.isCells = true := by
  intro j o hj ho
  obtain ⟨-, ⟨rfl, -⟩ | ⟨g, cap, cur, rfl, -, hh, -⟩⟩ := h
  · cases hj
  · cases hj
    rw [hh] at ho
    cases ho
    rfl

structure AppI (l : List (Int × Int)) (B : Nat) (w : World) (k : Nat) (W : World) : Prop where
  own : ∃ v, W.cell? ⟨B, 0, none⟩ = some v ∧ W.ownsRow (B + 1) 71 2 v k ((prI (l.take k)).map (Value.int .i64))
  fz : W.frozen? ⟨B, 0, none⟩ = false
  bel : Below B w W
theorem AppI.calm {l : List (Int × Int)} {B M : Nat} {w : World} {k : Nat} {W W' : World} (h : AppI l B w k W) (hc : Calm M W W') (hB : B ≤ M) : AppI l B w k W' := by
  obtain ⟨⟨v, h1, h2⟩, h3, h4⟩ := h
  exact ⟨⟨v, hc.cell h1, hc.owns h2⟩, hc.frozen h1 h3, hc.below hB h4⟩

theorem AppendSeq_ok (l : List (Int × Int)) (hl : l.length ≤ 100000) (gf : Nat) (lb : Array Value) (eg : ∀ args w, (callFunc gf args).run Tryz.prog w = .ok (.enter gf args) w) (w : World) (hit : Iter Tryz.prog gf lb (pairsL l) (KpS (fun k => k < w.heap.size)) w) :
    Calls Tryz.prog 79 #[.slice none 0 0, .func (.func gf) #[] lb] w (FreshPr w l) := by
  have IT := Lib.hid (fun W (hb : Below w.heap.size w W) => hit.later hb)
  have HPL := Lib.hid (pairsL_length l)
  have HPG := Lib.hid (fun k (h : k < l.length) => pairsL_get h)
  clear hit
  refine calls_of_wp_m Tryz.func79 rfl ?_
  simp only [Tryz.ntmps79, List.size_toArray, List.length_cons, List.length_nil, Nat.reduceAdd, Nat.reduceSub, Array.replicate_succ, Array.replicate_zero, List.push_toArray, List.append_toArray, List.nil_append, List.cons_append]
  go_wp2
  refine wp_range_w (xs := pairsL l) (Kp := KpS (fun k => k < w.heap.size)) rfl eg
    (IT.out _ ((Below.refl _ _).alloc (Nat.le_refl _) _)) (Below.refl _ _) (fun h k => fun i hi => (k i hi).trans (h i hi)) ?kb ?ps
    (AppI l w.heap.size w) (fun _ _ => False) ?hI (fun _ _ _ h _ => h) ?h0 ?round ?done (fun _ _ _ _ h _ => h.elim)
  case kb =>
    intro W q o o' hl _ _ k hk
    simp at hl
    exact World.putObj_heap_other (by omega)
  case ps =>
    intro x hx
    simp only [pairsL, List.mem_map] at hx
    obtain ⟨k, _, rfl⟩ := hx
    rfl
  case hI =>
    intro k W W' h hc
    exact h.calm hc (by simp)
  case h0 =>
    exact ⟨⟨_, by (exact xcn), World.ownsRow_nil _ _ _ _⟩, by (exact xcn), by (exact xbel)⟩
  case round =>
    intro q k W hq hk hi
    rw [HPL.out] at hk
    rw [HPG.out k hk]
    have htk := Lib.hid (take_succ_pr hk)
    generalize (l.getD k (0, 0)).1 = x at *
    generalize (l.getD k (0, 0)).2 = y at *
    obtain ⟨⟨v, hv, ho⟩, hfz, hbel⟩ := hi
    have hzb : w.heap.size < W.heap.size := World.block_lt_of_cell? _ _ hv
    obtain ⟨ao, co, rfl, -⟩ := owns_news ho
    have hlt1 : (prI (l.take k)).length = k * 2 := by rw [prI_length, List.length_take]; omega
    gi_wp2
    have hab : Below W.heap.size W (W.alloc (.cells #[.int .i64 x, .int .i64 y] 71)) := (Below.refl _ _).alloc (Nat.le_refl _) _
    refine ⟨keeps_below hab, fun i hi => hab.block i (by omega), ?_⟩
    intro W2 hc
    have hc0 : W2.cell? ⟨W.heap.size, 0, none⟩ = some (.int .i64 x) := hc.cell (by (exact xcw))
    have hc1 : W2.cell? ⟨W.heap.size, 1, none⟩ = some (.int .i64 y) := hc.cell (by (exact xcw))
    have hv2 : W2.cell? ⟨w.heap.size, 0, none⟩ = some (.slice ao k co) := hc.cell ((hab.cell (p := ⟨w.heap.size, 0, none⟩) hzb).trans hv)
    have hfz2 : W2.frozen? ⟨w.heap.size, 0, none⟩ = false := hc.frozen ((hab.cell (p := ⟨w.heap.size, 0, none⟩) hzb).trans hv) ((hab.frozen (p := ⟨w.heap.size, 0, none⟩) hzb).trans hfz)
    have ho2 := hc.owns (owns_below ho hab)
    have hbel2 : Below w.heap.size w W2 := hc.below (by simp) (below_via hab hbel (by omega))
    have hz2 := hbel2.size
    have HO2 := Lib.hid ho2
    have HB2 := Lib.hid hbel2
    have hzw : w.heap.size < W2.heap.size := World.block_lt_of_cell? _ _ hv2
    clear ho hbel hab hc ho2 hbel2 hv hfz
    gi_wp2_with (gi_at_builtin; refine wpListIn_append_own _ rfl (.tmp 8) (.tmp 10) 67 rfl (w.heap.size + 1) 71 _ (.agg #[.int .i64 0, .int .i64 0]) 2 16 Tryz.underlying67 (info_parts info_Pair).choose_spec.1 (info_parts info_Pair).choose_spec.2.1 (info_parts info_Pair).choose_spec.2.2.1 (info_parts info_Pair).choose_spec.2.2.2 rfl (by decide) _ k _ rfl (HO2.out.alloc (.cells #[.int .i64 x, .int .i64 y] 71)) ⟨W2.heap.size, 0, none⟩ 1 1 [.int .i64 x, .int .i64 y] rfl rfl (new_cells _ [.int .i64 x, .int .i64 y] _ _ rfl _ rfl) (by simp [Value.oneCell']) (by unfold maxLen; omega) (by omega) (by simp; omega) ?_; intro v' w3 ho3 hg3 _
                 obtain ⟨a3, c3, rfl, -⟩ := owns_news ho3
                 have hne3 : some w.heap.size ≠ (Value.slice ao k co).ownBlock := fun e => (by have := (HO2.out.lt _ e.symm).1; omega)
                 have hbl3 := hg3.block w.heap.size (by simp; omega) hne3
                 have hv3 : w3.cell? ⟨w.heap.size, 0, none⟩ = some (.slice ao k co) := (World.cell?_of_block (a := ⟨w.heap.size, 0, none⟩) hbl3).trans ((((Below.refl _ W2).alloc (Nat.le_refl _) _).cell (p := ⟨w.heap.size, 0, none⟩) hzw).trans hv2)
                 have hfz3 : w3.frozen? ⟨w.heap.size, 0, none⟩ = false := (World.frozen?_of_block (a := ⟨w.heap.size, 0, none⟩) hbl3).trans ((((Below.refl _ W2).alloc (Nat.le_refl _) _).frozen (p := ⟨w.heap.size, 0, none⟩) hzw).trans hfz2)
                 have HO3 := Lib.hid ho3
                 have HG3 := Lib.hid hg3
                 clear ho3 hg3 hbl3 hne3)
    have hB3 : Below w.heap.size w w3 := (HB2.out.alloc (by omega) (.cells #[.int .i64 x, .int .i64 y] 71)).grown HG3.out (by simp; omega) (fun z hz => by have := (HO2.out.lt _ hz).1; omega)
    have hK3 : KeepsOthers W2 w3 := (keeps_below (((Below.refl _ W2).alloc (Nat.le_refl _) _))).trans (KeepsOthers.of_grownBy HG3.out (own_isCells (HO2.out.alloc _)))
    refine ⟨hK3.trans (KeepsOthers.setCell _ _ _), fun i hi => ?_, ⟨⟨_, World.cell?_setCell_same _ _ _ hv3, ?_⟩, ?_, hB3.setCell (Nat.le_refl _) _⟩⟩
    · rw [Below.heap_setCell _ _ _ _ (show i ≠ w.heap.size by omega), HG3.out.block i (by simp; omega) (fun e => by have := (HO2.out.lt _ e.symm).1; omega)]
      exact ((Below.refl _ W2).alloc (Nat.le_refl _) _).block i (by omega)
    · rw [htk.out, prI_append, List.map_append]
      exact owns_heap HO3.out fun z hz => Below.heap_setCell _ _ _ _ (by have := (HO3.out.lt _ hz).1; show z ≠ w.heap.size; omega)
    · rw [World.frozen?_setCell]; exact hfz3
  case done =>
    intro D W hD hi hK
    obtain ⟨⟨v, hv, ho⟩, hfz, hbel⟩ := hi
    rw [HPL.out, List.take_length] at ho
    obtain ⟨ao, co, rfl, -⟩ := owns_news ho
    have HO := Lib.hid ho
    have HB := Lib.hid hbel
    clear ho hbel
    go_wp2
    simp at hD
    refine postM_one hK (results_tmp rfl _ _ _) ⟨_, rfl, ?_, ?_⟩
    · exact owns_base ((Calm.putObj (B := 0) _ (Nat.zero_le _) hK rfl).owns HO.out) (by omega)
    · exact (Calm.putObj (B := w.heap.size) _ (by omega) hK rfl).below (Nat.le_refl _) HB.out

theorem Collect_ok (l : List (Int × Int)) (hl : l.length ≤ 100000) (gf : Nat) (lb : Array Value) (eg : ∀ args w, (callFunc gf args).run Tryz.prog w = .ok (.enter gf args) w) (w : World) (hit : Iter Tryz.prog gf lb (pairsL l) (KpS (fun k => k < w.heap.size)) w) :
    Calls Tryz.prog 51 #[.func (.func gf) #[] lb] w (FreshPr w l) := by
  have A := Lib.hid (AppendSeq_ok l hl gf lb eg w hit)
  clear hit
  go_enter Tryz.func51, Tryz.ntmps51
  go_wp2_with fail
  refine A.out.mono ?_
  rintro e w1 ⟨v, rfl, ho, hb⟩
  have HO := Lib.hid ho
  have HB := Lib.hid hb
  clear ho hb
  go_wp2
  go_ret
  exact ⟨v, rfl, HO.out, HB.out⟩
theorem pairs_ok (c : SlC) (a : SlA) (lo hi : Int) (w : World) :
    Calls Tryz.prog 52 #[slV c a, .int .i64 lo, .int .i64 hi] w fun e w' => e = .returned (.func (.func 80) #[] #[.pointer (some ⟨w.heap.size + 1, 0, none⟩), .pointer (some ⟨w.heap.size + 2, 0, none⟩), .pointer (some ⟨w.heap.size, 0, none⟩)]) ∧
      w' = ((w.alloc (.cells #[.int .i64 c.seg, .slice a.wa c.ws.length a.wc, .slice a.ka c.ks.length a.kc, .slice a.va c.vs.length a.vc, .slice a.ca c.cs.length a.cc, .int .u64 c.laid] 29)).alloc (.cells #[.int .i64 lo] 3)).alloc (.cells #[.int .i64 hi] 3) := by
  go_enter Tryz.func52, Tryz.ntmps52
  go_wp2
  go_ret
  exact ⟨rfl, rfl⟩
def partE (c : SlC) (lo hi : Int) : Int := if slMay c = true then (if 0 ≤ lo ∧ lo ≤ hi ∧ hi ≤ c.ks.length then 0 else 2) else 8
def prsR (c : SlC) (lo hi : Int) : List (Int × Int) := if partE c lo hi = 0 then prs c lo.toNat hi.toNat else []
theorem part_ok (c : SlC) (a : SlA) (hl : c.ws.length ≤ 1000000000000) (hl2 : c.ks.length ≤ 1000000000000) (lo hi : Int) (w : World) (hin : SlIn w c a) :
    Calls Tryz.prog 50 #[slV c a, .int .i64 lo, .int .i64 hi] w (AnsB w (.int .i64 (partE c lo hi))) := by
  have CK := Lib.hid (slCheck_ok c a hl hl2 _ (hin.below ((Below.refl _ w).alloc (Nat.le_refl _) (.cells #[.int .i64 c.seg, .slice a.wa c.ws.length a.wc, .slice a.ka c.ks.length a.kc, .slice a.va c.vs.length a.vc, .slice a.ca c.cs.length a.cc, .int .u64 c.laid] 29))))
  by_cases hm : slMay c = true
  · have e0 : slE c = 0 := if_pos hm
    rw [e0] at CK
    have hv : partE c lo hi = if 0 ≤ lo ∧ lo ≤ hi ∧ hi ≤ c.ks.length then 0 else 2 := if_pos hm
    have hsp : (partE c lo hi = 0 ∧ 0 ≤ lo ∧ lo ≤ hi ∧ hi ≤ c.ks.length) ∨ (partE c lo hi = 2 ∧ lo < 0) ∨ (partE c lo hi = 2 ∧ 0 ≤ lo ∧ hi < lo) ∨ (partE c lo hi = 2 ∧ 0 ≤ lo ∧ lo ≤ hi ∧ (c.ks.length : Int) < hi) := by
      by_cases h : 0 ≤ lo ∧ lo ≤ hi ∧ hi ≤ c.ks.length
      · rw [if_pos h] at hv
        exact .inl ⟨hv, h⟩
      · rw [if_neg h] at hv
        by_cases h1 : lo < 0
        · exact .inr (.inl ⟨hv, h1⟩)
        · by_cases h2 : hi < lo
          · exact .inr (.inr (.inl ⟨hv, by omega, h2⟩))
          · exact .inr (.inr (.inr ⟨hv, by omega, by omega, by omega⟩))
    generalize partE c lo hi = ev at *
    obtain ⟨seg, ws, ks, vs, cs, laid⟩ := c
    obtain ⟨wa, ka, va, ca, wc, kc, vc, cc⟩ := a
    dsimp only [slV] at *
    clear hin hm e0 hv
    generalize ws.length = lw at *
    generalize ks.length = n at *
    generalize vs.length = lv at *
    generalize cs.length = lc at *
    rcases hsp with ⟨rfl, h1, h2, h3⟩ | ⟨rfl, h1⟩ | ⟨rfl, h1, h2⟩ | ⟨rfl, h1, h2, h3⟩
    all_goals
      go_enter Tryz.func50, Tryz.ntmps50
      go_wp2_with fail
      refine (CK.out).mono ?_
      rintro e w1 ⟨rfl, hb1⟩
      have hz_w1 := hb1.size
      try simp only [World.size_alloc, World.size_setCell] at hz_w1
      have c_t0 : w1.cell? ⟨w.heap.size, 0, none⟩ = some (.int .i64 seg) := (hb1.cell (p := ⟨w.heap.size, 0, none⟩) (by (exact xlt))).trans (by (exact xcn))
      have c_t1 : w1.cell? ⟨w.heap.size, 1, none⟩ = some (.slice wa lw wc) := (hb1.cell (p := ⟨w.heap.size, 1, none⟩) (by (exact xlt))).trans (by (exact xcn))
      have c_t2 : w1.cell? ⟨w.heap.size, 2, none⟩ = some (.slice ka n kc) := (hb1.cell (p := ⟨w.heap.size, 2, none⟩) (by (exact xlt))).trans (by (exact xcn))
      have z_t : w.heap.size < w1.heap.size := by omega
      have hB1 : Below w.heap.size w w1 := by (exact xbel)
      go_wp2
      go_ret
      exact ⟨rfl, hB1⟩
  · have e0 : slE c = 8 := if_neg hm
    have hv : partE c lo hi = 8 := if_neg hm
    rw [e0] at CK
    rw [hv]
    obtain ⟨seg, ws, ks, vs, cs, laid⟩ := c
    obtain ⟨wa, ka, va, ca, wc, kc, vc, cc⟩ := a
    dsimp only [slV] at *
    clear hin hm e0 hv
    go_enter Tryz.func50, Tryz.ntmps50
    go_wp2_with fail
    refine (CK.out).mono ?_
    rintro e w1 ⟨rfl, hb1⟩
    have hz_w1 := hb1.size
    try simp only [World.size_alloc, World.size_setCell] at hz_w1
    have hB1 : Below w.heap.size w w1 := by (exact xbel)
    go_wp2
    go_ret
    exact ⟨rfl, hB1⟩
theorem row_block {k : IntKind} {W : World} {a : Option Addr} {xs : List Int} (h : IsRow k W a xs) : ∀ x, a = some x → 0 < xs.length → x.block < W.heap.size := by
  intro x hx h0
  obtain ⟨b, off, y, he, -, -, hlt⟩ := h.get h0
  rw [he] at hx
  cases hx
  exact hlt
theorem Pairs_ok (c : SlC) (a : SlA) (hl : c.ws.length ≤ 1000000000000) (hl2 : c.ks.length ≤ 1000000000000) (lo hi : Int) (w : World) (hin : SlIn w c a) :
    Calls Tryz.prog 29 #[slV c a, .int .i64 lo, .int .i64 hi] w (FreshPr2 w (prsR c lo hi) (.int .i64 (partE c lo hi))) := by
  have PT := Lib.hid (fun W (hb : Below w.heap.size w W) => part_ok c a hl hl2 lo hi W (hin.below hb))
  by_cases he : partE c lo hi = 0
  · have hr : prsR c lo hi = prs c lo.toNat hi.toNat := if_pos he
    rw [he] at PT
    rw [hr, he]
    have hm : slMay c = true := by
      unfold partE at he
      split at he
      · assumption
      · cases he
    have hp : 0 ≤ lo ∧ lo ≤ hi ∧ hi ≤ c.ks.length := by
      unfold partE at he
      rw [if_pos hm] at he
      split at he
      · assumption
      · cases he
    obtain ⟨S, M, -, -, -, hnk, hnv, -, -, hSM, -, hnw, -, -, -⟩ := slHead_facts (slMay_head hm)
    obtain ⟨p, rfl⟩ : ∃ p : Nat, lo = p := ⟨lo.toNat, by omega⟩
    obtain ⟨q, rfl⟩ : ∃ q : Nat, hi = q := ⟨hi.toNat, by omega⟩
    rw [Int.toNat_natCast, Int.toNat_natCast]
    have hlen : (prs c p q).length ≤ 100000 := by
      rw [prs_length]
      have := cntW_le c.ws p q
      omega
    have IT := Lib.hid (fun S b1 b2 b3 s1 s2 s3 hS w hw hk hv hbx => pairs1_iter c a hin.u p q (by omega) (by omega) (by omega) (by omega) (by omega) S b1 b2 b3 s1 s2 s3 hS w hw hk hv hbx)
    have HIN := Lib.hid hin
    have CO := Lib.hid (fun gf lb eg w hit => Collect_ok (prs c p q) hlen gf lb eg w hit)
    generalize prs c p q = L at *
    have PA := Lib.hid (fun w => pairs_ok c a p q w)
    clear hin he hr hm hp hnk hnv hSM hnw
    obtain ⟨seg, ws, ks, vs, cs, laid⟩ := c
    obtain ⟨wa, ka, va, ca, wc, kc, vc, cc⟩ := a
    dsimp only [slV] at *
    go_enter Tryz.func29, Tryz.ntmps29
    go_wp2_with fail
    refine (PT.out _ ((Below.refl _ _).alloc (Nat.le_refl _) _)).mono ?_
    rintro e w1 ⟨rfl, hb1⟩
    have hz_w1 := hb1.size
    try simp only [World.size_alloc, World.size_setCell] at hz_w1
    have c_t0 : w1.cell? ⟨w.heap.size, 0, none⟩ = some (.int .i64 seg) := (hb1.cell (p := ⟨w.heap.size, 0, none⟩) (by (exact xlt))).trans (by (exact xcn))
    have c_t1 : w1.cell? ⟨w.heap.size, 1, none⟩ = some (.slice wa ws.length wc) := (hb1.cell (p := ⟨w.heap.size, 1, none⟩) (by (exact xlt))).trans (by (exact xcn))
    have c_t2 : w1.cell? ⟨w.heap.size, 2, none⟩ = some (.slice ka ks.length kc) := (hb1.cell (p := ⟨w.heap.size, 2, none⟩) (by (exact xlt))).trans (by (exact xcn))
    have c_t3 : w1.cell? ⟨w.heap.size, 3, none⟩ = some (.slice va vs.length vc) := (hb1.cell (p := ⟨w.heap.size, 3, none⟩) (by (exact xlt))).trans (by (exact xcn))
    have c_t4 : w1.cell? ⟨w.heap.size, 4, none⟩ = some (.slice ca cs.length cc) := (hb1.cell (p := ⟨w.heap.size, 4, none⟩) (by (exact xlt))).trans (by (exact xcn))
    have c_t5 : w1.cell? ⟨w.heap.size, 5, none⟩ = some (.int .u64 laid) := (hb1.cell (p := ⟨w.heap.size, 5, none⟩) (by (exact xlt))).trans (by (exact xcn))
    have z_t : w.heap.size < w1.heap.size := by omega
    have hB1 : Below w.heap.size w w1 := by (exact xbel)
    have hz1 := hB1.size
    go_wp2_with fail
    refine (PA.out _).mono ?_
    rintro e w2 ⟨rfl, rfl⟩
    have HI1 := HIN.out.below hB1
    go_wp2_with fail
    refine (CO.out _ _ (enters_of Tryz.func80 (by kernel_rfl) rfl) _ (IT.out _ (w1.heap.size + 1) (w1.heap.size + 2) w1.heap.size (by simp) (by simp) (by simp; omega) ⟨?s1, ?s2, ?s3⟩ _ ?r1 ?r2 ?r3 ⟨?b1, ?b2, ?b3, ?b4, ?b5, ?b6, ?b7, ?b8⟩)).mono ?_
    case s1 => intro x hx h0; have := row_block HI1.w x hx h0; simp; omega
    case s2 => intro x hx h0; have := row_block HI1.k x hx h0; simp; omega
    case s3 => intro x hx h0; have := row_block HI1.v x hx h0; simp; omega
    case r1 => exact HI1.w.below (by (exact xbel))
    case r2 => exact HI1.k.below (by (exact xbel))
    case r3 => exact HI1.v.below (by (exact xbel))
    case b1 => (exact xcn)
    case b2 => (exact xcn)
    case b3 => (exact xcn)
    case b4 => (exact xcn)
    case b5 => (exact xcn)
    case b6 => (exact xcn)
    case b7 => (exact xcn)
    case b8 => (exact xcn)
    rintro e w3 ⟨v, rfl, ho, hb3⟩
    have HO := Lib.hid ho
    have HB3 := Lib.hid (show Below w.heap.size w w3 from below_via hb3 (((hB1.alloc (by omega) _).alloc (by simp; omega) _).alloc (by simp; omega) _) (by simp; omega))
    clear ho hb3 HI1
    go_wp2
    go_ret2
    exact ⟨v, rfl, owns_base HO.out (by simp; omega), HB3.out⟩
  · have hr : prsR c lo hi = [] := if_neg he
    have hne : (partE c lo hi != 0) = true := by simpa using he
    rw [hr]
    generalize partE c lo hi = ev at *
    obtain ⟨seg, ws, ks, vs, cs, laid⟩ := c
    obtain ⟨wa, ka, va, ca, wc, kc, vc, cc⟩ := a
    dsimp only [slV] at *
    clear hin he hr
    go_enter Tryz.func29, Tryz.ntmps29
    go_wp2_with fail
    refine (PT.out _ ((Below.refl _ _).alloc (Nat.le_refl _) _)).mono ?_
    rintro e w1 ⟨rfl, hb1⟩
    have hz_w1 := hb1.size
    try simp only [World.size_alloc, World.size_setCell] at hz_w1
    have hB1 : Below w.heap.size w w1 := by (exact xbel)
    go_wp2
    go_ret2
    exact ⟨_, rfl, World.ownsRow_nil _ _ _ _, hB1⟩
end
end Go.Proofs.YtjhpblejlchhjaaGreat
