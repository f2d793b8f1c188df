/- The walk of the reference 04: Of. -/
import Derived.Test.YtbmibaafkgleeaaPrsAll
import Derived.Test.YtbmibaafkgleeaaSlRef
namespace Go.Proofs.Ytbmibaafkgleeaa
open Go.RowKit Go.Shelf
attribute [local go_sem] Oper.semAt_some
set_option linter.unusedVariables false
set_option linter.unusedSimpArgs false

/-- a row of one element that was laid -/
def Fact.laid {T : TypeId} (base : Nat) (t : TypeId) (he : t ≠ T) (vs : Array Value) : Fact T :=
  ⟨fun v w => ∃ b, v = .slice (some ⟨b, 0, none⟩) 1 1 ∧ base ≤ b ∧ w.heap[b]? = some (.cells vs t), fun _ _ _ h ⟨b, e, hb, hh⟩ => ⟨b, e, hb, h.same _ _ hh (fun cs fr e => by cases e; exact he rfl)⟩⟩
theorem laid_news {w : World} {b : Nat} {vs : Array Value} {t : TypeId} (h : w.heap[b]? = some (.cells vs t)) : ∀ j u, vs.toList[j]? = some u → w.cell? ((⟨b, 0, none⟩ : Addr).add j) = some u := by
  intro j u hj
  rw [Addr.add_lit, Nat.zero_add]
  simp only [World.cell?, h]
  simpa using hj
theorem plsW_getD {ws : List Int} {a b k : Nat} (h : k < (plsW ws a b).length) : a ≤ (plsW ws a b).getD k 0 ∧ (plsW ws a b).getD k 0 < b := by
  rw [List.getD_eq_getElem?_getD, List.getElem?_eq_getElem h]
  exact plsW_mem (List.getElem_mem h)
theorem prs_take_succ {c : SlC} {a b k : Nat} (h : k < (plsW c.ws a b).length) : (prs c a b).take (k + 1) = (prs c a b).take k ++ [(c.ks.getD ((plsW c.ws a b).getD k 0) 0, c.vs.getD ((plsW c.ws a b).getD k 0) 0)] := by
  rw [prs, ← List.map_take, ← List.map_take, List.take_succ_eq_append_getElem h, List.map_append]
  congr 1
  have e : (plsW c.ws a b).getD k 0 = (plsW c.ws a b)[k] := by simp [List.getD_eq_getElem?_getD, List.getElem?_eq_getElem h]
  rw [e]
  rfl

set_option maxRecDepth 100000 in
set_option maxHeartbeats 4000000 in
theorem Of04_ok (c : SlC) (a : SlA) (lo hi : Nat) (hlo : lo ≤ 100000) (hwn : hi ≤ 64 * c.ws.length) (hkn : hi ≤ c.ks.length) (hvn : c.vs.length = c.ks.length) (hb : hi ≤ 65600) (w : World) (hin : SlIn w c a) :
    Calls Try.prog 112 #[slV c a, .int .i64 lo, .int .i64 hi] w (FreshPr w (prs c lo hi)) := by
  have PL := Lib.hid (fun w hw => Places02_ok a.wa a.wc c.ws hin.u lo hi hwn hb hlo w hw)
  have HIN := Lib.hid hin
  have HPT := Lib.hid (fun k (h : k < (plsW c.ws lo hi).length) => prs_take_succ (c := c) h)
  have HPB := Lib.hid (fun k (h : k < (plsW c.ws lo hi).length) => plsW_getD h)
  have hml : (plsW c.ws lo hi).length ≤ 65600 := by rw [plsW_length]; have := cntW_le c.ws lo hi; omega
  have hpl : (prs c lo hi).length = (plsW c.ws lo hi).length := by rw [prs_length, plsW_length]
  have HPL := Lib.hid hpl
  generalize prs c lo hi = L at *
  generalize plsW c.ws lo hi = pl at *
  have HIL := Lib.hid (ints_length pl)
  obtain ⟨m, hm⟩ : ∃ m, pl.length = m := ⟨_, rfl⟩
  rw [hm] at HPT HPB HIL HPL hml
  obtain ⟨seg, ws, ks, vs, cs, laid⟩ := c
  obtain ⟨wa, ka, va, ca, wc, kc, vc, cc⟩ := a
  dsimp only [slV] at *
  obtain ⟨n, hn⟩ : ∃ n, ks.length = n := ⟨_, rfl⟩
  rw [hn] at hkn hvn ⊢
  rw [hvn]
  have HKL := Lib.hid hn
  have HVL := Lib.hid hvn
  clear hin hm hpl hn hvn
  go_enter Try.func112, Try.ntmps112
  go_wp2_with fail
  refine (PL.out _ (HIN.out.w.below ((Below.refl _ _).alloc (Nat.le_refl _) _))).mono ?_
  rintro e w1 ⟨vl, rfl, hol, hb1⟩
  have hz_w1 := hb1.size
  try simp only [World.size_alloc, World.size_setCell] at hz_w1
  have c_t0 : w1.cell? ⟨w.heap.size, 0, none⟩ = some (.int .i64 seg) := (hb1.cell (p := ⟨w.heap.size, 0, none⟩) (by (first | (with_reducible assumption) | omega | (simp only [szW] <;> omega) | (simp <;> omega)))).trans (by (first | (with_reducible assumption) | ((try simp (disch := first | omega | (simp only [szW] <;> omega) | fail) only [ceW]) <;> first | (with_reducible assumption) | rfl)))
  have c_t1 : w1.cell? ⟨w.heap.size, 1, none⟩ = some (.slice wa ws.length wc) := (hb1.cell (p := ⟨w.heap.size, 1, none⟩) (by (first | (with_reducible assumption) | omega | (simp only [szW] <;> omega) | (simp <;> omega)))).trans (by (first | (with_reducible assumption) | ((try simp (disch := first | omega | (simp only [szW] <;> omega) | fail) only [ceW]) <;> first | (with_reducible assumption) | rfl)))
  have c_t2 : w1.cell? ⟨w.heap.size, 2, none⟩ = some (.slice ka n kc) := (hb1.cell (p := ⟨w.heap.size, 2, none⟩) (by (first | (with_reducible assumption) | omega | (simp only [szW] <;> omega) | (simp <;> omega)))).trans (by (first | (with_reducible assumption) | ((try simp (disch := first | omega | (simp only [szW] <;> omega) | fail) only [ceW]) <;> first | (with_reducible assumption) | rfl)))
  have c_t3 : w1.cell? ⟨w.heap.size, 3, none⟩ = some (.slice va n vc) := (hb1.cell (p := ⟨w.heap.size, 3, none⟩) (by (first | (with_reducible assumption) | omega | (simp only [szW] <;> omega) | (simp <;> omega)))).trans (by (first | (with_reducible assumption) | ((try simp (disch := first | omega | (simp only [szW] <;> omega) | fail) only [ceW]) <;> first | (with_reducible assumption) | rfl)))
  have z_t : w.heap.size < w1.heap.size := by omega
  have hB1 : Below w.heap.size w w1 := by (repeat (first | with_reducible (first | exact Below.refl _ _ | assumption | exact Hid.out (by assumption) | refine Below.alloc ?_ ?_ _ | refine Below.setCell ?_ ?_ _ | refine below_drewN ?_ _ | refine Below.drew ?_ | refine below_via (by assumption) ?_ ?_) | (first | (with_reducible assumption) | omega | (simp only [szW] <;> omega) | (simp <;> omega))))
  obtain ⟨la, lc, rfl, hil, -, -, -, -⟩ := row_of_owns hol
  rw [HIL.out]
  have HRL := Lib.hid hil
  have HB1 := Lib.hid hB1
  have HLB := Lib.hid (row_block hil)
  clear hb1 hB1 hol hil
  go_wp2
  go_loopg [7, 9] m (fun gk v iv wr => ∃ k : Nat, k + gk = m ∧ iv = .int .i64 k ∧ Hid (wr.ownsRow w1.heap.size 55 2 v k ((prI (L.take k)).map (Value.int .i64))) ∧ wr.cell? ⟨w.heap.size, 2, none⟩ = some (.slice ka n kc) ∧ wr.cell? ⟨w.heap.size, 3, none⟩ = some (.slice va n vc) ∧ Hid (Below w.heap.size w wr) ∧ w1.heap.size ≤ wr.heap.size ∧ Hid (IsRow .i64 wr la (ints pl)))
  case atStart => exact ⟨0, by omega, rfl, Lib.hid (World.ownsRow_nil _ _ _ _), c_t2, c_t3, HB1, Nat.le_refl _, HRL⟩
  case round =>
    obtain ⟨k, hk, rfl, HO, cE2, cE3, HB, hz, HR⟩ := hrel
    by_cases hlt : k < m
    · obtain ⟨ao, co, rfl, -⟩ := owns_news HO.out
      obtain ⟨bl, ol, s', rfl, hs', cl, zl⟩ := HR.out.get (i := k) (by rw [HIL.out]; exact hlt)
      obtain ⟨s, hs⟩ : ∃ s, pl.getD k 0 = s := ⟨_, rfl⟩
      have hss : s' = (s : Int) := by rw [← hs'.out, getD_ints, hs]
      subst hss
      have hpb := HPB.out k hlt
      have hpt := HPT.out k hlt
      rw [hs] at hpb hpt
      have hsn : s < n := by omega
      obtain ⟨bk, ok, kx, rfl, hkx, ck, zk⟩ := (HIN.out.k.below HB.out).get (i := s) (by dsimp only; rw [HKL.out]; exact hsn)
      obtain ⟨bv, ov, vx, rfl, hvx, cv, zv⟩ := (HIN.out.v.below HB.out).get (i := s) (by dsimp only; rw [HVL.out]; exact hsn)
      dsimp only at hkx hvx
      rw [hkx.out, hvx.out] at hpt
      have HTK := Lib.hid hpt
      have HK2 := Lib.hid hk
      have hlt1 : (prI (L.take k)).length = k * 2 := by rw [prI_length, List.length_take]; have := HPL.out; omega
      clear hpt hkx hvx hs hs' hk HRL
      go_wp2
      refine wpIn_wide (n := 0).1 (wpIn_region_facts 19 (by kernel_rfl) (N := 42) rfl (by kernel_rfl) (by kernel_rfl) (by decide) (fun w' => Below wr.heap.size wr w') (Ext 25) (factAt [.is (.slice ao k co), .is (.pointer (some ⟨w.heap.size, 2, none⟩)), .is (.slice (some ⟨bk, ok, none⟩) n kc), .is (.slice (some ⟨bl, ol, none⟩) m lc), .is (.int .i64 k), .is (.pointer (some ⟨bl, ol + k, none⟩)), .is (.int .i64 s), .is (.pointer (some ⟨bk, ok + s, none⟩)), .is (.int .i64 kx), .is (.pointer (some ⟨w.heap.size, 3, none⟩)), .is (.slice (some ⟨bv, ov, none⟩) n vc), .is (.slice (some ⟨bl, ol, none⟩) m lc), .is (.int .i64 k), .is (.pointer (some ⟨bl, ol + k, none⟩)), .is (.int .i64 s), .is (.pointer (some ⟨bv, ov + s, none⟩)), .is (.int .i64 vx), .is (.agg #[.int .i64 kx, .int .i64 vx]), .laid wr.heap.size 55 (by decide) #[.int .i64 kx, .int .i64 vx]]) (factAt_stays _) (Below.refl _ _).drew ?steps ?fin)
      case steps =>
        refine ⟨?o0, ?o1, ?o2, ?o3, ?o4, ?o5, ?o6, ?o7, ?o8, ?o9, ?o10, ?o11, ?o12, ?o13, ?o14, ?o15, ?o16, ?o17, ?o18, trivial⟩
        case o0 =>
          intro u a w' ev hJ hd K hK
          rw [if_pos (wanted_free rfl)]
          have e7 : a.tmps.getD 7 undef = .slice ao k co := ev 7 (by decide)
          have HK := Lib.hid hK
          clear hK ev hd
          go_simp
          exact HK.out _ _ (fun h => by cases h) hJ rfl (Ext.refl _ _)
        case o1 =>
          intro u a w' ev hJ hd K hK
          rw [if_pos (wanted_free rfl)]
          have e3 : a.tmps.getD 3 undef = .pointer (some ⟨w.heap.size, 0, none⟩) := ev 3 (by decide)
          have HK := Lib.hid hK
          clear hK ev hd
          go_simp
          exact HK.out _ _ (fun h => by cases h) hJ rfl (Ext.refl _ _)
        case o2 =>
          intro u a w' ev hJ hd K hK
          rw [if_pos (wanted_free rfl)]
          have e22 : a.tmps.getD 22 undef = .pointer (some ⟨w.heap.size, 2, none⟩) := (ev 22 (by decide)).trans (hd 1 _ (by kernel_rfl) rfl)
          have g0 := (hJ.cell (p := ⟨w.heap.size, 2, none⟩) (by dsimp only; omega)).trans cE2
          have HK := Lib.hid hK
          clear hK ev hd
          go_simp
          exact HK.out _ _ (fun h => by cases h) hJ rfl (Ext.refl _ _)
        case o3 =>
          intro u a w' ev hJ hd K hK
          rw [if_pos (wanted_free rfl)]
          have e8 : a.tmps.getD 8 undef = .slice (some ⟨bl, ol, none⟩) m lc := ev 8 (by decide)
          have HK := Lib.hid hK
          clear hK ev hd
          go_simp
          exact HK.out _ _ (fun h => by cases h) hJ rfl (Ext.refl _ _)
        case o4 =>
          intro u a w' ev hJ hd K hK
          rw [if_pos (wanted_free rfl)]
          have e9 : a.tmps.getD 9 undef = .int .i64 k := ev 9 (by decide)
          have HK := Lib.hid hK
          clear hK ev hd
          go_simp
          exact HK.out _ _ (fun h => by cases h) hJ rfl (Ext.refl _ _)
        case o5 =>
          intro u a w' ev hJ hd K hK
          rw [if_pos (wanted_free rfl)]
          have e24 : a.tmps.getD 24 undef = .slice (some ⟨bl, ol, none⟩) m lc := (ev 24 (by decide)).trans (hd 3 _ (by kernel_rfl) rfl)
          have e25 : a.tmps.getD 25 undef = .int .i64 k := (ev 25 (by decide)).trans (hd 4 _ (by kernel_rfl) rfl)
          have HK := Lib.hid hK
          clear hK ev hd
          go_simp
          exact HK.out _ _ (fun h => by cases h) hJ rfl (Ext.refl _ _)
        case o6 =>
          intro u a w' ev hJ hd K hK
          rw [if_pos (wanted_free rfl)]
          have e26 : a.tmps.getD 26 undef = .pointer (some ⟨bl, ol + k, none⟩) := (ev 26 (by decide)).trans (hd 5 _ (by kernel_rfl) rfl)
          have g0 := (hJ.cell (p := ⟨bl, ol + k, none⟩) (by dsimp only; omega)).trans cl
          have HK := Lib.hid hK
          clear hK ev hd
          go_simp
          exact HK.out _ _ (fun h => by cases h) hJ rfl (Ext.refl _ _)
        case o7 =>
          intro u a w' ev hJ hd K hK
          rw [if_pos (wanted_free rfl)]
          have e23 : a.tmps.getD 23 undef = .slice (some ⟨bk, ok, none⟩) n kc := (ev 23 (by decide)).trans (hd 2 _ (by kernel_rfl) rfl)
          have e27 : a.tmps.getD 27 undef = .int .i64 s := (ev 27 (by decide)).trans (hd 6 _ (by kernel_rfl) rfl)
          have HK := Lib.hid hK
          clear hK ev hd
          go_simp
          exact HK.out _ _ (fun h => by cases h) hJ rfl (Ext.refl _ _)
        case o8 =>
          intro u a w' ev hJ hd K hK
          rw [if_pos (wanted_free rfl)]
          have e28 : a.tmps.getD 28 undef = .pointer (some ⟨bk, ok + s, none⟩) := (ev 28 (by decide)).trans (hd 7 _ (by kernel_rfl) rfl)
          have g0 := (hJ.cell (p := ⟨bk, ok + s, none⟩) (by dsimp only; omega)).trans ck
          have HK := Lib.hid hK
          clear hK ev hd
          go_simp
          exact HK.out _ _ (fun h => by cases h) hJ rfl (Ext.refl _ _)
        case o9 =>
          intro u a w' ev hJ hd K hK
          rw [if_pos (wanted_free rfl)]
          have e3 : a.tmps.getD 3 undef = .pointer (some ⟨w.heap.size, 0, none⟩) := ev 3 (by decide)
          have HK := Lib.hid hK
          clear hK ev hd
          go_simp
          exact HK.out _ _ (fun h => by cases h) hJ rfl (Ext.refl _ _)
        case o10 =>
          intro u a w' ev hJ hd K hK
          rw [if_pos (wanted_free rfl)]
          have e30 : a.tmps.getD 30 undef = .pointer (some ⟨w.heap.size, 3, none⟩) := (ev 30 (by decide)).trans (hd 9 _ (by kernel_rfl) rfl)
          have g0 := (hJ.cell (p := ⟨w.heap.size, 3, none⟩) (by dsimp only; omega)).trans cE3
          have HK := Lib.hid hK
          clear hK ev hd
          go_simp
          exact HK.out _ _ (fun h => by cases h) hJ rfl (Ext.refl _ _)
        case o11 =>
          intro u a w' ev hJ hd K hK
          rw [if_pos (wanted_free rfl)]
          have e8 : a.tmps.getD 8 undef = .slice (some ⟨bl, ol, none⟩) m lc := ev 8 (by decide)
          have HK := Lib.hid hK
          clear hK ev hd
          go_simp
          exact HK.out _ _ (fun h => by cases h) hJ rfl (Ext.refl _ _)
        case o12 =>
          intro u a w' ev hJ hd K hK
          rw [if_pos (wanted_free rfl)]
          have e9 : a.tmps.getD 9 undef = .int .i64 k := ev 9 (by decide)
          have HK := Lib.hid hK
          clear hK ev hd
          go_simp
          exact HK.out _ _ (fun h => by cases h) hJ rfl (Ext.refl _ _)
        case o13 =>
          intro u a w' ev hJ hd K hK
          rw [if_pos (wanted_free rfl)]
          have e32 : a.tmps.getD 32 undef = .slice (some ⟨bl, ol, none⟩) m lc := (ev 32 (by decide)).trans (hd 11 _ (by kernel_rfl) rfl)
          have e33 : a.tmps.getD 33 undef = .int .i64 k := (ev 33 (by decide)).trans (hd 12 _ (by kernel_rfl) rfl)
          have HK := Lib.hid hK
          clear hK ev hd
          go_simp
          exact HK.out _ _ (fun h => by cases h) hJ rfl (Ext.refl _ _)
        case o14 =>
          intro u a w' ev hJ hd K hK
          rw [if_pos (wanted_free rfl)]
          have e34 : a.tmps.getD 34 undef = .pointer (some ⟨bl, ol + k, none⟩) := (ev 34 (by decide)).trans (hd 13 _ (by kernel_rfl) rfl)
          have g0 := (hJ.cell (p := ⟨bl, ol + k, none⟩) (by dsimp only; omega)).trans cl
          have HK := Lib.hid hK
          clear hK ev hd
          go_simp
          exact HK.out _ _ (fun h => by cases h) hJ rfl (Ext.refl _ _)
        case o15 =>
          intro u a w' ev hJ hd K hK
          rw [if_pos (wanted_free rfl)]
          have e31 : a.tmps.getD 31 undef = .slice (some ⟨bv, ov, none⟩) n vc := (ev 31 (by decide)).trans (hd 10 _ (by kernel_rfl) rfl)
          have e35 : a.tmps.getD 35 undef = .int .i64 s := (ev 35 (by decide)).trans (hd 14 _ (by kernel_rfl) rfl)
          have HK := Lib.hid hK
          clear hK ev hd
          go_simp
          exact HK.out _ _ (fun h => by cases h) hJ rfl (Ext.refl _ _)
        case o16 =>
          intro u a w' ev hJ hd K hK
          rw [if_pos (wanted_free rfl)]
          have e36 : a.tmps.getD 36 undef = .pointer (some ⟨bv, ov + s, none⟩) := (ev 36 (by decide)).trans (hd 15 _ (by kernel_rfl) rfl)
          have g0 := (hJ.cell (p := ⟨bv, ov + s, none⟩) (by dsimp only; omega)).trans cv
          have HK := Lib.hid hK
          clear hK ev hd
          go_simp
          exact HK.out _ _ (fun h => by cases h) hJ rfl (Ext.refl _ _)
        case o17 =>
          intro u a w' ev hJ hd K hK
          rw [if_pos (wanted_free rfl)]
          have e29 : a.tmps.getD 29 undef = .int .i64 kx := (ev 29 (by decide)).trans (hd 8 _ (by kernel_rfl) rfl)
          have e37 : a.tmps.getD 37 undef = .int .i64 vx := (ev 37 (by decide)).trans (hd 16 _ (by kernel_rfl) rfl)
          have f29 : a.tmps[29]?.getD undef = .int .i64 kx := by rw [← Array.getD_eq_getD_getElem?]; exact e29
          have f37 : a.tmps[37]?.getD undef = .int .i64 vx := by rw [← Array.getD_eq_getD_getElem?]; exact e37
          have HK := Lib.hid hK
          clear hK ev hd
          go_simp
          exact HK.out _ _ (fun h => by cases h) hJ rfl (Ext.refl _ _)
        case o18 =>
          intro u a w' ev hJ hd K hK
          rw [if_pos (wanted_free rfl)]
          have e38 : a.tmps.getD 38 undef = .agg #[.int .i64 kx, .int .i64 vx] := (ev 38 (by decide)).trans (hd 17 _ (by kernel_rfl) rfl)
          have f38 : a.tmps[38]?.getD undef = .agg #[.int .i64 kx, .int .i64 vx] := by rw [← Array.getD_eq_getD_getElem?]; exact e38
          have HK := Lib.hid hK
          have hzJ := hJ.size
          have HJ := Lib.hid hJ
          clear hK ev hd hJ
          go_simp
          exact HK.out _ _ (fun h => by cases h) (HJ.out.alloc hzJ _) ⟨_, rfl, hzJ, alloc_new _ _⟩ (Ext.below ((Below.refl _ _).alloc (Nat.le_refl _) _))
      case fin =>
        intro u w3 hJ hG
        have h15 : u 21 = .slice ao k co := hG 0 _ rfl
        obtain ⟨b, h39, hbb, hheap⟩ : (Fact.laid (T := 25) wr.heap.size 55 (by decide) #[.int .i64 kx, .int .i64 vx]).holds (u 39) w3 := hG 18 _ rfl
        have f2 := (hJ.cell (p := ⟨w.heap.size, 2, none⟩) (by dsimp only; omega)).trans cE2
        have f3 := (hJ.cell (p := ⟨w.heap.size, 3, none⟩) (by dsimp only; omega)).trans cE3
        have HB3 := Lib.hid (below_via hJ HB.out (by omega))
        have HO3 := Lib.hid (owns_below HO.out hJ)
        have HR3 := Lib.hid (HR.out.below hJ)
        have hz13 : w1.heap.size ≤ w3.heap.size := by have := hJ.size; omega
        have HNW := Lib.hid (laid_news hheap)
        clear hG cE2 cE3 hJ hheap cl ck cv
        simp only [mixFrame, mixL, dstsOf, List.take_succ_cons, List.take_zero, List.filterMap_cons, List.filterMap_nil, List.contains_cons, List.contains_nil, Nat.reduceBEq, Bool.or_false, Bool.false_or, Bool.or_true, Bool.true_or, if_true, if_false, Bool.false_eq_true, Nat.reduceAdd, Nat.zero_add, List.drop_succ_cons, List.drop_zero, h15, h39]
        gi_wp2_with (gi_at_builtin; refine wpListIn_append_own _ rfl (.tmp 21) (.tmp 39) 58 rfl w1.heap.size 55 _ (.agg #[.int .i64 0, .int .i64 0]) 2 16 Try.underlying58 (info_parts info_Pair).choose_spec.1 (info_parts info_Pair).choose_spec.2.1 (info_parts info_Pair).choose_spec.2.2.1 (info_parts info_Pair).choose_spec.2.2.2 rfl (by decide) _ k _ rfl HO3.out ⟨b, 0, none⟩ 1 1 [.int .i64 kx, .int .i64 vx] rfl rfl HNW.out (by simp [Value.oneCell']) (by unfold maxLen; omega) (by omega) (by have := hz13; omega) ?_; intro v' w4 ho4 hg4 _
                     obtain ⟨a4, c4, rfl, -⟩ := owns_news ho4
                     have HO4 := Lib.hid ho4
                     have HG4 := Lib.hid hg4
                     clear ho4 hg4)
        have hne : ∀ q, q < w1.heap.size → w4.heap[q]? = w3.heap[q]? := fun q hq => HG4.out.block q (by omega) (fun e => (by have := (HO3.out.lt _ e.symm).1; omega))
        have g2 : w4.cell? ⟨w.heap.size, 2, none⟩ = some (.slice (some ⟨bk, ok, none⟩) n kc) := (World.cell?_of_block (a := ⟨w.heap.size, 2, none⟩) (hne _ z_t)).trans f2
        have g3 : w4.cell? ⟨w.heap.size, 3, none⟩ = some (.slice (some ⟨bv, ov, none⟩) n vc) := (World.cell?_of_block (a := ⟨w.heap.size, 3, none⟩) (hne _ z_t)).trans f3
        have HR4 := Lib.hid (KpS.row (S := fun q => q < w1.heap.size) (W := w3) (W' := w4) (fun q hq => hne q hq) (fun x hx h0 => HLB.out x hx h0) HR3.out)
        have HB4 := Lib.hid (HB3.out.grown HG4.out (by have := HB3.out.size; omega) (fun z hz => by have := (HO3.out.lt z hz).1; omega))
        have hz4 : w1.heap.size ≤ w4.heap.size := Nat.le_trans hz13 HG4.out.size
        clear hne
        go_wp2
        go_roundg (gk - 1)
        case measure => have := HK2.out; omega
        case rel =>
          refine ⟨k + 1, by have := HK2.out; omega, by go_num, Lib.hid ?_, g2, g3, HB4, hz4, HR4⟩
          rw [HTK.out, prI_append, List.map_append]
          exact HO4.out
    · have hkm : m = k := by omega
      subst hkm
      obtain ⟨ao, co, rfl, -⟩ := owns_news HO.out
      go_wp2
      go_ret
      refine ⟨_, rfl, ?_, HB.out⟩
      have h9 := HO.out
      rw [List.take_of_length_le (by rw [HPL.out]; exact Nat.le_refl _)] at h9
      rw [HPL.out]
      exact owns_base h9 (by omega)
end Go.Proofs.Ytbmibaafkgleeaa
