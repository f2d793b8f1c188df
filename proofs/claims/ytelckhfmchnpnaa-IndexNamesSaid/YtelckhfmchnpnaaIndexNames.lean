/-
  IndexNames: the errors' numbers, and more examples.
  No condition.
-/
import Derived.Test.YtelckhfmchnpnaaAlvCh
import Derived.Test.YtelckhfmchnpnaaTwoAll
import Derived.Test.YtelckhfmchnpnaaIdxTw
import Derived.Test.YtelckhfmchnpnaaIdxLaw
namespace Go.Proofs.Ytelckhfmchnpnaa
open Go.RowKit Go.Shelf
attribute [local go_sem] Oper.semAt_some
set_option linter.unusedVariables false
set_option linter.unusedSimpArgs false

theorem own_form {w : World} {B n c s : Nat} {e : TypeId} {ao : Option Addr} {xs : List Value} (h : w.ownsRow B e s (.slice ao n c) n xs) (hn : 0 < n) : ∃ g, ao = some ⟨g, 0, none⟩ ∧ B ≤ g ∧ g < w.heap.size := by
  obtain ⟨_, ⟨h1, h2⟩ | ⟨g, cap, cur, hv, hg, hh, -⟩⟩ := h
  · omega
  · cases hv
    exact ⟨g, rfl, hg, (Array.getElem?_eq_some_iff.1 hh).1⟩
/-- the chapter's array, a key of it turned -/
def chD : SlC := ⟨chC.seg, chC.ws, chC.ks.set 13 9, chC.vs, chC.cs, chC.laid⟩
def nilC : SlC := ⟨0, [], [], [], [], 0⟩
def bigC : SlC := zeroSl 4 65536 1024 16384
theorem chD_E : bldE chD = 130 := by rw [chD, chC_eq]; decide +kernel
theorem nilC_E : bldE nilC = 8 := by decide +kernel
theorem rep_bit (n i : Nat) : bitW (List.replicate n 0) i = false := by
  have : (List.replicate n (0 : Int)).getD (i / 64) 0 = 0 := by
    rw [List.getD_eq_getElem?_getD, List.getElem?_replicate]
    split <;> rfl
  rw [bitW, this]
  exact bitI_zero _
theorem rep_cnt (n a b : Nat) : cntW (List.replicate n 0) a b = 0 := by
  unfold cntW
  rw [List.countP_eq_zero]
  intro i _
  rw [rep_bit]
  decide
theorem rep_pls (n a b : Nat) : plsW (List.replicate n 0) a b = [] := by
  unfold plsW
  rw [List.filter_eq_nil_iff]
  intro i _
  rw [rep_bit]
  decide
theorem zero_may (seg many nw nc : Nat) (h1 : fitB seg many = true) (h2 : nw = (many + 63) / 64) (h3 : (nc : Int) = (many : Int) / seg) : slMay (zeroSl seg many nw nc) = true := by
  have hz : ∀ n i : Nat, (List.replicate n (0 : Int)).getD i 0 = 0 := fun n i => by
    rw [List.getD_eq_getElem?_getD, List.getElem?_replicate]
    split <;> rfl
  have a1 : slHead (zeroSl seg many nw nc) = true := by
    unfold slHead zeroSl
    simp only [List.length_replicate, Bool.and_eq_true, decide_eq_true_eq]
    refine ⟨⟨⟨h1, by simp⟩, ?_⟩, h3⟩
    unfold wMayB
    simp only [List.length_replicate, Bool.and_eq_true, decide_eq_true_eq]
    exact ⟨h2, List.all_eq_true.2 fun i _ => by rw [rep_bit]; rfl⟩
  have a2 : clrB (zeroSl seg many nw nc) = true := List.all_eq_true.2 fun i _ => by
    simp only [zeroSl, hz]
    simp
  have a3 : cntB (zeroSl seg many nw nc) = true := List.all_eq_true.2 fun i _ => by
    simp only [zeroSl, hz, rep_cnt]
    rfl
  rw [slMay, a1, a2, a3]
  rfl
theorem bigC_E : bldE bigC = 4 := by
  have hm : slMay bigC = true := zero_may 4 65536 1024 16384 (by decide +kernel) (by decide) (by decide)
  have hs : seekE bigC = 0 := by
    rw [seekE, if_pos hm]
    have : prs bigC 0 bigC.ks.length = [] := by
      unfold prs
      rw [show plsW bigC.ws 0 bigC.ks.length = [] from rep_pls _ _ _]
      rfl
    rw [this]
    rfl
  have hl : bigC.cs.length = 16384 := List.length_replicate
  rw [bldE, if_pos hs, if_pos (by rw [hl]; decide)]
theorem ch_len : (bldM chC).length = 7 ∧ (bldC chC).length = 7 := by rw [chC_eq]; decide +kernel
theorem ch_out : (atM 3 (bldM chC) (bldC chC) 8 = 0 ∧ atC 3 (bldM chC) (bldC chC) 8 = 0 ∧ atE 3 (bldM chC) (bldC chC) 8 = 2) ∧ atM 3 (bldM chC) (bldC chC) 0 = 0 ∧ atC 3 (bldM chC) (bldC chC) 0 = 0 ∧ atE 3 (bldM chC) (bldC chC) 0 = 2 := by rw [chC_eq]; decide +kernel
theorem ch_bad : ixE 3 (bldM chC) ((bldC chC).set 0 6) = 8 ∧ ixE 3 ((bldM chC).set 3 1) (bldC chC) = 8 ∧ ofB 3 (bldM chC) ((bldC chC).set 0 6) chC = false ∧ ofB 3 (bldM chC) (bldC chC) chC = true := by rw [chC_eq]; decide +kernel
theorem one_ok : ixE 1 [0] [0] = 0 ∧ ixE 0 [] [] = 8 := by decide +kernel

set_option maxRecDepth 100000 in
set_option maxHeartbeats 4000000 in
theorem Names_in (c d e : SlC) (bm bc : List Int) (hl1 : bm.length = 7) (hl2 : bc.length = 7) (h16 : c.ks.length = 16) (hc1 : 0 < c.ws.length) (hc3 : 0 < c.vs.length) (hc4 : 0 < c.cs.length) (hkv : c.ks.getD 0 0 ≠ c.vs.getD 0 0) (hu : U64s c.ws) (hue : U64s e.ws) (w : World)
    (AL : Hid (∀ W, Calls Try.prog 26 #[] W (AnsB W (.bool true))))
    (CH : Hid (∀ W, Calls Try.prog 29 #[] W (FreshSl W c)))
    (BI : Hid (∀ a W, SlIn W c a → Calls Try.prog 21 #[slV c a] W (FreshIx2 W 3 bm bc (.int .i64 0))))
    (BD : Hid (∀ a1 a2 a3 a4 k1 k2 k3 k4 W, IsRow .u64 W a1 c.ws → IsRow .i64 W a2 (c.ks.set 13 9) → IsRow .i64 W a3 c.vs → IsRow .i64 W a4 c.cs → Calls Try.prog 21 #[.agg #[.int .i64 c.seg, .slice a1 c.ws.length k1, .slice a2 16 k2, .slice a3 c.vs.length k3, .slice a4 c.cs.length k4, .int .u64 c.laid]] W (FreshIx2 W (bldL d) (bldM d) (bldC d) (.int .i64 130))))
    (BE : Hid (∀ a W, SlIn W e a → Calls Try.prog 21 #[slV e a] W (FreshIx2 W (bldL e) (bldM e) (bldC e) (.int .i64 4))))
    (BN : Hid (∀ W, Calls Try.prog 21 #[.agg #[.int .i64 0, .slice none 0 0, .slice none 0 0, .slice none 0 0, .slice none 0 0, .int .u64 0]] W (FreshIx2 W (bldL nilC) (bldM nilC) (bldC nilC) (.int .i64 8))))
    (NW : Hid (∀ W, Calls Try.prog 30 #[.int .i64 4, .int .i64 65536] W (FreshSl2 W e (.int .i64 0))))
    (A8 : Hid (∀ xa xb xc xd W, IsRow .i64 W xa bm → IsRow .i64 W xb bc → Calls Try.prog 12 #[ixV 3 xa 7 xc xb 7 xd, .int .i64 8] W (AnsB W (.tuple #[.int .i64 0, .int .i64 0, .int .i64 2]))))
    (A0 : Hid (∀ xa xb xc xd W, IsRow .i64 W xa bm → IsRow .i64 W xb bc → Calls Try.prog 12 #[ixV 3 xa 7 xc xb 7 xd, .int .i64 0] W (AnsB W (.tuple #[.int .i64 0, .int .i64 0, .int .i64 2]))))
    (OX : Hid (∀ xa xb xc xd a W, SlIn W c a → IsRow .i64 W xa bm → IsRow .i64 W xb bc → Calls Try.prog 23 #[ixV 3 xa 7 xc xb 7 xd, slV c a] W (AnsB W (.tuple #[.bool true, .int .i64 0]))))
    (OY : Hid (∀ xa xb xc xd a W, SlIn W c a → IsRow .i64 W xa bm → IsRow .i64 W xb (bc.set 0 6) → Calls Try.prog 23 #[ixV 3 xa 7 xc xb 7 xd, slV c a] W (AnsB W (.tuple #[.bool false, .int .i64 0]))))
    (TWI : Hid (∀ xa xb xc xd W, IsRow .i64 W xa bm → IsRow .i64 W xb bc → Calls Try.prog 11 #[ixV 3 xa 7 xc xb 7 xd] W (FreshIx W 3 bm bc)))
    (CY : Hid (∀ xa xb xc xd W, IsRow .i64 W xa bm → IsRow .i64 W xb (bc.set 0 6) → Calls Try.prog 14 #[ixV 3 xa 7 xc xb 7 xd] W (AnsB W (.int .i64 8))))
    (CZ : Hid (∀ xa xb xc xd W, IsRow .i64 W xa (bm.set 3 1) → IsRow .i64 W xb bc → Calls Try.prog 14 #[ixV 3 xa 7 xc xb 7 xd] W (AnsB W (.int .i64 8))))
    (C0 : Hid (∀ W, Calls Try.prog 14 #[ixV 0 none 0 0 none 0 0] W (AnsB W (.int .i64 8))))
    (C1 : Hid (∀ xa xb xc xd W, IsRow .i64 W xa [0] → IsRow .i64 W xb [0] → Calls Try.prog 14 #[ixV 1 xa 1 xc xb 1 xd] W (AnsB W (.int .i64 0)))) :
    Calls Try.prog 6 #[] w (AnsB w (.bool true)) := by
  have HLM := Lib.hid hl1
  have HLC := Lib.hid hl2
  have H16 := Lib.hid h16
  have HU := Lib.hid hu
  have HUE := Lib.hid hue
  have HKV := Lib.hid hkv
  clear hl1 hl2 h16 hu hue hkv
  unfold FreshSl at CH
  go_enter Try.func6, Try.ntmps6
  go_wp2_with fail
  refine (CH.out w).mono ?_
  rintro e' w1 ⟨v1, v2, v3, v4, rfl, o1, o2, o3, o4, hb1⟩
  obtain ⟨a1, c1, rfl, i1, -, -, -, -⟩ := row_of_owns o1
  obtain ⟨a2, c2, rfl, i2, -, -, -, -⟩ := row_of_owns o2
  obtain ⟨a3, c3, rfl, i3, -, -, -, -⟩ := row_of_owns o3
  obtain ⟨a4, c4, rfl, i4, -, -, -, -⟩ := row_of_owns o4
  have BI1 := Lib.hid (BI.out ⟨a1, a2, a3, a4, c1, c2, c3, c4⟩ w1 ⟨i1, i2, i3, i4, HU.out⟩)
  clear o1 o2 o3 o4 i1 i2 i3 i4
  go_wp2_with fail
  refine BI1.out.mono ?_
  rintro e' w2 ⟨v, u, rfl, o1, o2, hb2⟩
  obtain ⟨ma, mc, rfl, i1, -, -, -, -⟩ := row_of_owns o1
  obtain ⟨ca2, cc2, rfl, i2, -, -, -, -⟩ := row_of_owns o2
  rw [HLM.out, HLC.out]
  have hz1 := hb1.size
  have hz2 := hb2.size
  have hB2 : Below w.heap.size w w2 := below_via hb2 hb1 (by omega)
  have I1 := Lib.hid (fun W (hb : Below w2.heap.size w2 W) => i1.below hb)
  have I2 := Lib.hid (fun W (hb : Below w2.heap.size w2 W) => i2.below hb)
  clear o1 o2 i1 i2 hb1 hb2 BI1 BI
  have hx : Below w2.heap.size w2 (w2.alloc (.cells #[.int .i64 3, .slice ma 7 mc, .slice ca2 7 cc2] 25)) := (Below.refl _ _).alloc (Nat.le_refl _) _
  go_wp2_with fail
  refine (A8.out ma ca2 mc cc2 _ (I1.out _ hx) (I2.out _ hx)).mono ?_
  rintro e w3 ⟨rfl, hb3⟩
  have hz_w3 := hb3.size
  try simp only [World.size_alloc, World.size_setCell] at hz_w3
  have all_c : w3.cell? ⟨w2.heap.size, 0, none⟩ = some (.int .i64 3) ∧ w3.cell? ⟨w2.heap.size, 1, none⟩ = some (.slice ma 7 mc) ∧ w3.cell? ⟨w2.heap.size, 2, none⟩ = some (.slice ca2 7 cc2) := by refine ⟨?_, ?_, ?_⟩ <;> (refine (hb3.cell ?_).trans ?_ <;> first | (first | (with_reducible assumption) | omega | (simp only [World.size_alloc, World.size_setCell, World.size_drew, World.heap_drewN] <;> omega) | (simp <;> omega)) | (first | (with_reducible assumption) | ((try simp (disch := first | omega | (simp only [World.size_alloc, World.size_setCell, World.size_drew, World.heap_drewN] <;> omega) | fail) only [World.cell?_alloc_past, World.cell?_alloc_at, World.frozen?_alloc_past, World.frozen?_alloc_at, World.frozen?_setCell, World.cell?_drew, World.frozen?_drew]) <;> first | (with_reducible assumption) | rfl)))
  have all_z : w2.heap.size < w3.heap.size := by omega
  obtain ⟨c_x0, c_x1, c_x2⟩ := all_c
  try clear all_c
  have z_x := all_z
  try clear all_z
  have h3 : Below w2.heap.size w2 w3 := below_via hb3 hx (by simp)
  go_wp2_with fail
  refine (A0.out ma ca2 mc cc2 _ (I1.out _ h3) (I2.out _ h3)).mono ?_
  rintro e wz6 ⟨rfl, hb4⟩
  have hz_wz6 := hb4.size
  try simp only [World.size_alloc, World.size_setCell] at hz_wz6
  have all_c : wz6.cell? ⟨w2.heap.size, 0, none⟩ = some (.int .i64 3) ∧ wz6.cell? ⟨w2.heap.size, 1, none⟩ = some (.slice ma 7 mc) ∧ wz6.cell? ⟨w2.heap.size, 2, none⟩ = some (.slice ca2 7 cc2) := by refine ⟨?_, ?_, ?_⟩ <;> (refine (hb4.cell ?_).trans ?_ <;> first | (first | (with_reducible assumption) | omega | (simp only [World.size_alloc, World.size_setCell, World.size_drew, World.heap_drewN] <;> omega) | (simp <;> omega)) | (first | (with_reducible assumption) | ((try simp (disch := first | omega | (simp only [World.size_alloc, World.size_setCell, World.size_drew, World.heap_drewN] <;> omega) | fail) only [World.cell?_alloc_past, World.cell?_alloc_at, World.frozen?_alloc_past, World.frozen?_alloc_at, World.frozen?_setCell, World.cell?_drew, World.frozen?_drew]) <;> first | (with_reducible assumption) | rfl)))
  have all_z : w2.heap.size < wz6.heap.size := by omega
  clear c_x0 c_x1 c_x2 z_x
  obtain ⟨c_x0, c_x1, c_x2⟩ := all_c
  try clear all_c
  have z_x := all_z
  try clear all_z
  have h4 : Below w2.heap.size w2 wz6 := below_via hb4 h3 (by omega)
  clear hb3 hb4 hx h3 A8 A0
  go_upto_region 6 with (fail)
  refine wp_region_late 8 (by kernel_rfl) (N := 164) rfl (by kernel_rfl) (by kernel_rfl) (by decide) (fun w' => Below wz6.heap.size wz6 w') RB (factRAt [.is (ixV 3 ma 7 mc ca2 7 cc2), .sl wz6.heap.size c, .is (.tuple #[.bool true, .int .i64 0]), .is (.tuple #[.bool true, .int .i64 0]), .is (.bool true), .is (.int .i64 0), .is (.bool true), .is (.int .i64 0)]) (factRAt_stays _) (Below.refl _ _).drew ?stepsp ?finp
  case stepsp =>
    refine ⟨?o0, ?o1, ?o2, ?o3, ?o4, ?o5, ?o6, ?o7, trivial⟩
    case o0 =>
      intro u a w' ev hJ hd K hK
      have e1 : a.tmps.getD 1 undef = .pointer (some ⟨w2.heap.size, 0, none⟩) := ev 1 (by decide)
      have g0 := (hJ.cell (p := ⟨w2.heap.size, 0, none⟩) (by dsimp only; omega)).trans c_x0
      have g1 := (hJ.cell (p := ⟨w2.heap.size, 1, none⟩) (by dsimp only; omega)).trans c_x1
      have g2 := (hJ.cell (p := ⟨w2.heap.size, 2, none⟩) (by dsimp only; omega)).trans c_x2
      have HK := Lib.hid hK
      clear hK ev hd
      go_simp
      exact HK.out _ _ (fun h => by cases h) hJ rfl (Below.refl _ _)
    case o1 =>
      intro u a w' ev hJ hd K hK
      have HK := Lib.hid hK
      have HC := Lib.hid (CH.out w')
      have hzJ := hJ.size
      clear hK ev hd
      go_simp
      refine HC.out.mono ?_
      rintro e w'' ⟨v1, v2, v3, v4, rfl, o1, o2, o3, o4, hb⟩
      exact HK.out _ _ (fun h => by cases h) (hJ.trans (hb.mono hzJ)) ⟨_, _, _, _, rfl, owns_base o1 hzJ, owns_base o2 hzJ, owns_base o3 hzJ, owns_base o4 hzJ⟩ hb
    case o2 =>
      intro u a w' ev hJ hd K hK
      obtain ⟨v1, v2, v3, v4, h2, o1, o2, o3, o4⟩ : (FactR.sl wz6.heap.size c).holds (u 57) w' := hd 1 _ (by kernel_rfl) rfl
      obtain ⟨q1, k1, rfl, i1, -, -, -, -⟩ := row_of_owns o1
      obtain ⟨q2, k2, rfl, i2, -, -, -, -⟩ := row_of_owns o2
      obtain ⟨q3, k3, rfl, i3, -, -, -, -⟩ := row_of_owns o3
      obtain ⟨q4, k4, rfl, i4, -, -, -, -⟩ := row_of_owns o4
      have e56 : a.tmps.getD 56 undef = ixV 3 ma 7 mc ca2 7 cc2 := (ev 56 (by decide)).trans (hd 0 _ (by kernel_rfl) rfl)
      have e57 : a.tmps.getD 57 undef = _ := (ev 57 (by decide)).trans h2
      have HK := Lib.hid hK
      have HC := Lib.hid (OX.out ma ca2 mc cc2 ⟨q1, q2, q3, q4, k1, k2, k3, k4⟩ w' ⟨i1, i2, i3, i4, HU.out⟩ (I1.out _ (below_via hJ h4 (by omega))) (I2.out _ (below_via hJ h4 (by omega))))
      have hzJ := hJ.size
      clear hK ev hd h2 o1 o2 o3 o4 i1 i2 i3 i4
      dsimp only [slV] at HC
      go_simp
      refine HC.out.mono ?_
      rintro e w'' ⟨rfl, hb⟩
      exact HK.out _ _ (fun h => by cases h) (hJ.trans (hb.mono hzJ)) rfl hb
    case o3 =>
      intro u a w' ev hJ hd K hK
      have e58 : a.tmps.getD 58 undef = .tuple #[.bool true, .int .i64 0] := (ev 58 (by decide)).trans (hd 2 _ (by kernel_rfl) rfl)
      have HK := Lib.hid hK
      clear hK ev hd
      go_simp
      exact HK.out _ _ (fun h => by cases h) hJ rfl (Below.refl _ _)
    case o4 =>
      intro u a w' ev hJ hd K hK
      have e55 : a.tmps.getD 55 undef = .tuple #[.bool true, .int .i64 0] := (ev 55 (by decide)).trans (hd 3 _ (by kernel_rfl) rfl)
      have HK := Lib.hid hK
      clear hK ev hd
      go_simp
      exact HK.out _ _ (fun h => by cases h) hJ rfl (Below.refl _ _)
    case o5 =>
      intro u a w' ev hJ hd K hK
      have e55 : a.tmps.getD 55 undef = .tuple #[.bool true, .int .i64 0] := (ev 55 (by decide)).trans (hd 3 _ (by kernel_rfl) rfl)
      have HK := Lib.hid hK
      clear hK ev hd
      go_simp
      exact HK.out _ _ (fun h => by cases h) hJ rfl (Below.refl _ _)
    case o6 =>
      intro u a w' ev hJ hd K hK
      have e59 : a.tmps.getD 59 undef = .bool true := (ev 59 (by decide)).trans (hd 4 _ (by kernel_rfl) rfl)
      have HK := Lib.hid hK
      clear hK ev hd
      go_simp
      exact HK.out _ _ (fun h => by cases h) hJ rfl (Below.refl _ _)
    case o7 =>
      intro u a w' ev hJ hd K hK
      have e60 : a.tmps.getD 60 undef = .int .i64 0 := (ev 60 (by decide)).trans (hd 5 _ (by kernel_rfl) rfl)
      have HK := Lib.hid hK
      clear hK ev hd
      go_simp
      exact HK.out _ _ (fun h => by cases h) hJ rfl (Below.refl _ _)
  case finp =>
    intro u wz hJ hG
    have h0 : u 56 = ixV 3 ma 7 mc ca2 7 cc2 := hG 0 _ rfl
    have h2 : u 58 = .tuple #[.bool true, .int .i64 0] := hG 2 _ rfl
    have h3 : u 55 = .tuple #[.bool true, .int .i64 0] := hG 3 _ rfl
    have h4 : u 59 = .bool true := hG 4 _ rfl
    have h5 : u 60 = .int .i64 0 := hG 5 _ rfl
    have h6 : u 9 = .bool true := hG 6 _ rfl
    have h7 : u 10 = .int .i64 0 := hG 7 _ rfl
    obtain ⟨v1, v2, v3, v4, h1, -, -, -, -⟩ : (FactR.sl wz6.heap.size c).holds (u 57) wz := hG 1 _ rfl
    have hz_wz := hJ.size
    try simp only [World.size_alloc, World.size_setCell] at hz_wz
    have all_c : wz.cell? ⟨w2.heap.size, 0, none⟩ = some (.int .i64 3) ∧ wz.cell? ⟨w2.heap.size, 1, none⟩ = some (.slice ma 7 mc) ∧ wz.cell? ⟨w2.heap.size, 2, none⟩ = some (.slice ca2 7 cc2) := by refine ⟨?_, ?_, ?_⟩ <;> (refine (hJ.cell ?_).trans ?_ <;> first | (first | (with_reducible assumption) | omega | (simp only [World.size_alloc, World.size_setCell, World.size_drew, World.heap_drewN] <;> omega) | (simp <;> omega)) | (first | (with_reducible assumption) | ((try simp (disch := first | omega | (simp only [World.size_alloc, World.size_setCell, World.size_drew, World.heap_drewN] <;> omega) | fail) only [World.cell?_alloc_past, World.cell?_alloc_at, World.frozen?_alloc_past, World.frozen?_alloc_at, World.frozen?_setCell, World.cell?_drew, World.frozen?_drew]) <;> first | (with_reducible assumption) | rfl)))
    have all_z : w2.heap.size < wz.heap.size := by omega
    clear c_x0 c_x1 c_x2 z_x
    obtain ⟨c_x0, c_x1, c_x2⟩ := all_c
    try clear all_c
    have z_x := all_z
    try clear all_z
    have HJCp : Below wz6.heap.size wz6 wz := hJ
    clear hG hJ
    simp only [mixFrame, mixL, dstsOf, List.take_succ_cons, List.take_zero, List.filterMap_cons, List.filterMap_nil, List.contains_cons, List.contains_nil, Nat.reduceBEq, Bool.or_false, Bool.false_or, Bool.or_true, Bool.true_or, if_true, if_false, Bool.false_eq_true, Nat.reduceAdd, Nat.zero_add, List.drop_succ_cons, List.drop_zero, h0, h1, h2, h3, h4, h5, h6, h7]
    clear h0 h1 h2 h3 h4 h5 h6 h7
    have HS : Hid (Below w2.heap.size w2 wz) := Lib.hid (below_via HJCp h4 (by omega))
    have hBz : Below w.heap.size w wz := below_via HS.out hB2 (by omega)
    have TW := Lib.hid (fun W (hb : Below w2.heap.size w2 W) => TWI.out ma ca2 mc cc2 W (I1.out _ hb) (I2.out _ hb))
    clear HJCp OX TWI h4 I1 I2
    go_upto_region 7 with (fail)
    refine wp_region_two 6 (by kernel_rfl) (N := 164) rfl (by kernel_rfl) (by kernel_rfl) (by decide) (fun w' => Below wz.heap.size wz w') RB (factRAt [.is (ixV 3 ma 7 mc ca2 7 cc2), .ix wz.heap.size 3 bm bc, .is (ixV 3 ma 7 mc ca2 7 cc2), .ix wz.heap.size 3 bm bc, .box wz.heap.size 25 3, .box wz.heap.size 25 3]) TwinR (factRAt_stays _) (Below.refl _ _).drew ?steps ?fin
    case steps =>
      refine ⟨?o0, ?o1, ?o2, ?o3, ?o4, ?o5, trivial⟩
      case o0 =>
        intro u a w' ev hJ hd Dn hD K hK
        have e1 : a.tmps.getD 1 undef = .pointer (some ⟨w2.heap.size, 0, none⟩) := ev 1 (by decide)
        have g0 := (hJ.cell (p := ⟨w2.heap.size, 0, none⟩) (by dsimp only; omega)).trans c_x0
        have g1 := (hJ.cell (p := ⟨w2.heap.size, 1, none⟩) (by dsimp only; omega)).trans c_x1
        have g2 := (hJ.cell (p := ⟨w2.heap.size, 2, none⟩) (by dsimp only; omega)).trans c_x2
        have HK := Lib.hid hK
        clear hK ev hd hD
        go_simp
        exact HK.out _ _ (fun h => by cases h) hJ rfl (fun j p _ _ => twinR_load (by decide)) (Below.refl _ _)
      case o1 =>
        intro u a w' ev hJ hd Dn hD K hK
        have e61 : a.tmps.getD 61 undef = ixV 3 ma 7 mc ca2 7 cc2 := (ev 61 (by decide)).trans (hd 0 _ (by kernel_rfl) rfl)
        have HK := Lib.hid hK
        have HC := Lib.hid (TW.out w' (below_via hJ HS.out (by omega)))
        have hzJ := hJ.size
        have HD := Lib.hid hD
        clear hK ev hd hD
        go_simp
        refine HC.out.mono ?_
        rintro e w'' ⟨v, u', rfl, o1, o2, hb⟩
        refine HK.out _ _ (fun h => by cases h) (hJ.trans (hb.mono hzJ)) ⟨_, _, rfl, owns_base o1 hzJ, owns_base o2 hzJ⟩ (fun j p hj hp => twinR_call (B := wz.heap.size) (L := 3) (ms := bm) (cs := bc) (by decide) (fun h => ?_) o1 o2) hb
        rcases h with rfl | rfl <;> exact HD.out _ _ hj hp
      case o2 =>
        intro u a w' ev hJ hd Dn hD K hK
        have e1 : a.tmps.getD 1 undef = .pointer (some ⟨w2.heap.size, 0, none⟩) := ev 1 (by decide)
        have g0 := (hJ.cell (p := ⟨w2.heap.size, 0, none⟩) (by dsimp only; omega)).trans c_x0
        have g1 := (hJ.cell (p := ⟨w2.heap.size, 1, none⟩) (by dsimp only; omega)).trans c_x1
        have g2 := (hJ.cell (p := ⟨w2.heap.size, 2, none⟩) (by dsimp only; omega)).trans c_x2
        have HK := Lib.hid hK
        clear hK ev hd hD
        go_simp
        exact HK.out _ _ (fun h => by cases h) hJ rfl (fun j p _ _ => twinR_load (by decide)) (Below.refl _ _)
      case o3 =>
        intro u a w' ev hJ hd Dn hD K hK
        have e63 : a.tmps.getD 63 undef = ixV 3 ma 7 mc ca2 7 cc2 := (ev 63 (by decide)).trans (hd 2 _ (by kernel_rfl) rfl)
        have HK := Lib.hid hK
        have HC := Lib.hid (TW.out w' (below_via hJ HS.out (by omega)))
        have hzJ := hJ.size
        have HD := Lib.hid hD
        clear hK ev hd hD
        go_simp
        refine HC.out.mono ?_
        rintro e w'' ⟨v, u', rfl, o1, o2, hb⟩
        refine HK.out _ _ (fun h => by cases h) (hJ.trans (hb.mono hzJ)) ⟨_, _, rfl, owns_base o1 hzJ, owns_base o2 hzJ⟩ (fun j p hj hp => twinR_call (B := wz.heap.size) (L := 3) (ms := bm) (cs := bc) (by decide) (fun h => ?_) o1 o2) hb
        rcases h with rfl | rfl <;> exact HD.out _ _ hj hp
      case o4 =>
        intro u a w' ev hJ hd Dn hD K hK
        have HK := Lib.hid hK
        have hzJ := hJ.size
        have HJ := Lib.hid hJ
        have HD := Lib.hid hD
        clear hK ev hd hJ hD
        go_simp
        refine HK.out _ _ (fun h => by cases h) (HJ.out.alloc hzJ _) ⟨_, _, rfl, hzJ, alloc_new _ _, rfl⟩ (fun j p hj hp => twinR_alloc (B := wz.heap.size) (n := 3) (t := 25) (by decide) fun h => ?_) ((Below.refl _ _).alloc (Nat.le_refl _) _)
        rcases h with rfl | rfl <;> exact HD.out _ _ hj hp
      case o5 =>
        intro u a w' ev hJ hd Dn hD K hK
        have HK := Lib.hid hK
        have hzJ := hJ.size
        have HJ := Lib.hid hJ
        have HD := Lib.hid hD
        clear hK ev hd hJ hD
        go_simp
        refine HK.out _ _ (fun h => by cases h) (HJ.out.alloc hzJ _) ⟨_, _, rfl, hzJ, alloc_new _ _, rfl⟩ (fun j p hj hp => twinR_alloc (B := wz.heap.size) (n := 3) (t := 25) (by decide) fun h => ?_) ((Below.refl _ _).alloc (Nat.le_refl _) _)
        rcases h with rfl | rfl <;> exact HD.out _ _ hj hp
    case fin =>
      intro u wy hJ hG hR
      obtain ⟨x1, y1, h1, o1, o2⟩ : (FactR.ix wz.heap.size 3 bm bc).holds (u 62) wy := hG 1 _ rfl
      obtain ⟨x2, y2, h2, p1, p2⟩ : (FactR.ix wz.heap.size 3 bm bc).holds (u 64) wy := hG 3 _ rfl
      have hAP : IxApart (u 62) (u 64) := (hR 1 3 _ _ (by decide) rfl rfl).1 (by decide)
      rw [h1, h2] at hAP
      obtain ⟨ap1, ap2⟩ := hAP _ _ _ _ _ _ rfl rfl
      obtain ⟨b5, cs5, h5, hz5, hh5, hn5⟩ : (FactR.box wz.heap.size 25 3).holds (u 11) wy := hG 4 _ rfl
      obtain ⟨b6, cs6, h6, hz6, hh6, hn6⟩ : (FactR.box wz.heap.size 25 3).holds (u 12) wy := hG 5 _ rfl
      have h56 : b5 ≠ b6 := fun e => (show u 11 ≠ u 12 from (hR 4 5 _ _ (by decide) rfl rfl).2 (by decide)) (by rw [h5, h6, e])
      rw [HLM.out] at o1 p1
      rw [HLC.out] at o2 p2
      have n15 := row_apart hh5 o1 (by decide)
      have n16 := row_apart hh6 o1 (by decide)
      have n25 := row_apart hh5 o2 (by decide)
      have n26 := row_apart hh6 o2 (by decide)
      have n35 := row_apart hh5 p1 (by decide)
      have n36 := row_apart hh6 p1 (by decide)
      have n45 := row_apart hh5 p2 (by decide)
      have n46 := row_apart hh6 p2 (by decide)
      obtain ⟨d0, d1, d2, k0, k1, k2, f0, f1, f2⟩ := box_three hh5 hn5
      obtain ⟨e0, e1, e2, m0, m1, m2, j0, j1, j2⟩ := box_three hh6 hn6
      have hlb5 := World.block_lt_of_cell? _ _ k0
      have hlb6 := World.block_lt_of_cell? _ _ m0
      dsimp only at hlb5 hlb6
      obtain ⟨xa, xc, rfl, -⟩ := owns_news o1
      obtain ⟨ya, yc, rfl, -⟩ := owns_news o2
      obtain ⟨xa2, xc2, rfl, -⟩ := owns_news p1
      obtain ⟨ya2, yc2, rfl, -⟩ := owns_news p2
      have HN1 := Lib.hid ap1
      have HN2 := Lib.hid ap2
      have HQ1 := Lib.hid (And.intro o1 (And.intro n15 n16))
      have HQ2 := Lib.hid (And.intro o2 (And.intro n25 n26))
      have HQ3 := Lib.hid (And.intro p1 (And.intro n35 n36))
      have HQ4 := Lib.hid (And.intro p2 (And.intro n45 n46))
      have HJ := Lib.hid hJ
      have hzJ := hJ.size
      have HTB := Lib.hid (two_boxes h56 k0 k1 k2 m0 m1 m2 ((((((wy.setCell ⟨b5, 0, none⟩ (.int .i64 3)).setCell ⟨b5, 1, none⟩ (.slice xa 7 xc)).setCell ⟨b5, 2, none⟩ (.slice ya 7 yc)).setCell ⟨b6, 0, none⟩ (.int .i64 3)).setCell ⟨b6, 1, none⟩ (.slice xa2 7 xc2)).setCell ⟨b6, 2, none⟩ (.slice ya2 7 yc2)) rfl)
      clear hG hR hAP ap1 ap2 o1 o2 p1 p2 n15 n16 n25 n26 n35 n36 n45 n46 hh5 hh6 hn5 hn6 hJ
      simp only [mixFrame, mixL, dstsOf, List.take_succ_cons, List.take_zero, List.filterMap_cons, List.filterMap_nil, List.contains_cons, List.contains_nil, Nat.reduceBEq, Bool.or_false, Bool.false_or, Bool.or_true, Bool.true_or, if_true, if_false, Bool.false_eq_true, Nat.reduceAdd, Nat.zero_add, List.drop_succ_cons, List.drop_zero, h1, h2, h5, h6]
      clear h1 h2 h5 h6
      go_upto_region 8 with (fail)
      generalize ((((((wy.setCell ⟨b5, 0, none⟩ (.int .i64 3)).setCell ⟨b5, 1, none⟩ (.slice xa 7 xc)).setCell ⟨b5, 2, none⟩ (.slice ya 7 yc)).setCell ⟨b6, 0, none⟩ (.int .i64 3)).setCell ⟨b6, 1, none⟩ (.slice xa2 7 xc2)).setCell ⟨b6, 2, none⟩ (.slice ya2 7 yc2)) = w9 at *
      obtain ⟨c_y0, c_y1, c_y2, c_v0, c_v1, c_v2, hz9, hq9, hb9⟩ := HTB.out
      have HJ9 := Lib.hid (hb9 HJ.out hz5 hz6)
      have HO1 := Lib.hid (owns_heap (W' := w9) HQ1.out.1 fun k hk => hq9 k (HQ1.out.2.1 k hk) (HQ1.out.2.2 k hk))
      have HO2 := Lib.hid (owns_heap (W' := w9) HQ2.out.1 fun k hk => hq9 k (HQ2.out.2.1 k hk) (HQ2.out.2.2 k hk))
      have HP1 := Lib.hid (owns_heap (W' := w9) HQ3.out.1 fun k hk => hq9 k (HQ3.out.2.1 k hk) (HQ3.out.2.2 k hk))
      have HP2 := Lib.hid (owns_heap (W' := w9) HQ4.out.1 fun k hk => hq9 k (HQ4.out.2.1 k hk) (HQ4.out.2.2 k hk))
      have hY : b5 < w9.heap.size ∧ b6 < w9.heap.size := by omega
      obtain ⟨z_y, z_v⟩ := hY
      have HNB1 := Lib.hid (And.intro HQ1.out.2 HQ2.out.2)
      have HNB2 := Lib.hid (And.intro HQ3.out.2 HQ4.out.2)
      clear HTB k0 k1 k2 m0 m1 m2 f0 f1 f2 j0 j1 j2 HQ1 HQ2 HQ3 HQ4 hq9 hb9 HJ hzJ hlb5 hlb6
      obtain ⟨g1, rfl, hg1, hg1'⟩ := own_form HO1.out (by omega)
      obtain ⟨g2, rfl, hg2, hg2'⟩ := own_form HO2.out (by omega)
      obtain ⟨g3, rfl, hg3, hg3'⟩ := own_form HP1.out (by omega)
      obtain ⟨g4, rfl, hg4, hg4'⟩ := own_form HP2.out (by omega)
      have n13 : g1 ≠ g3 := HN1.out _ _ rfl rfl
      have n24 : g2 ≠ g4 := HN2.out _ _ rfl rfl
      have nb2 := HNB1.out.2.1 _ rfl
      have nc2 := HNB1.out.2.2 _ rfl
      have nb3 := HNB2.out.1.1 _ rfl
      have nc3 := HNB2.out.1.2 _ rfl
      have n12 : g1 ≠ g2 := by
        rcases owns_apart HO1.out HO2.out (by decide) with h | h
        · cases h
        · intro e; exact h (by rw [e]; rfl)
      have n23 : g2 ≠ g3 := by
        rcases owns_apart HO2.out HP1.out (by decide) with h | h
        · cases h
        · intro e; exact h (by rw [e]; rfl)
      have n34 : g3 ≠ g4 := by
        rcases owns_apart HP1.out HP2.out (by decide) with h | h
        · cases h
        · intro e; exact h (by rw [e]; rfl)
      obtain ⟨d1, d2⟩ := own_cell HO2.out (j := 0) (by rw [HLC.out]; decide)
      obtain ⟨d3, d4⟩ := own_cell HP1.out (j := 3) (by rw [HLM.out]; decide)
      generalize bc.getD 0 0 = X1 at d1
      generalize bm.getD 3 0 = X2 at d3
      clear HN1 HN2 HNB1 HNB2
      go_upto_region 9 with (fail)
      have Sg2 := own_store HO2.out 0 6
      have Rg2 : Hid (IsRow .i64 (w9.setCell ⟨g2, 0, none⟩ (.int .i64 6)) (some ⟨g2, 0, none⟩) _) := Lib.hid Sg2.1
      have Qg2 : Hid (∀ q, q ≠ g2 → (w9.setCell ⟨g2, 0, none⟩ (.int .i64 6)).heap[q]? = w9.heap[q]?) := Lib.hid Sg2.2.1
      have Zg2 : (w9.setCell ⟨g2, 0, none⟩ (.int .i64 6)).heap.size = w9.heap.size := Sg2.2.2.1
      have Bg2 : Hid (Below wz.heap.size wz (w9.setCell ⟨g2, 0, none⟩ (.int .i64 6))) := Lib.hid (Sg2.2.2.2 HJ9.out hg2)
      clear Sg2
      generalize (w9.setCell ⟨g2, 0, none⟩ (.int .i64 6)) = w10 at *
      have k_y0 : w10.cell? ⟨b5, 0, none⟩ = some (.int .i64 3) := (World.cell?_of_block (a := ⟨b5, 0, none⟩) (Qg2.out (b5) nb2.symm)).trans c_y0
      have k_y1 : w10.cell? ⟨b5, 1, none⟩ = some (.slice (some ⟨g1, 0, none⟩) 7 xc) := (World.cell?_of_block (a := ⟨b5, 1, none⟩) (Qg2.out (b5) nb2.symm)).trans c_y1
      have k_y2 : w10.cell? ⟨b5, 2, none⟩ = some (.slice (some ⟨g2, 0, none⟩) 7 yc) := (World.cell?_of_block (a := ⟨b5, 2, none⟩) (Qg2.out (b5) nb2.symm)).trans c_y2
      have k_v0 : w10.cell? ⟨b6, 0, none⟩ = some (.int .i64 3) := (World.cell?_of_block (a := ⟨b6, 0, none⟩) (Qg2.out (b6) nc2.symm)).trans c_v0
      have k_v1 : w10.cell? ⟨b6, 1, none⟩ = some (.slice (some ⟨g3, 0, none⟩) 7 xc2) := (World.cell?_of_block (a := ⟨b6, 1, none⟩) (Qg2.out (b6) nc2.symm)).trans c_v1
      have k_v2 : w10.cell? ⟨b6, 2, none⟩ = some (.slice (some ⟨g4, 0, none⟩) 7 yc2) := (World.cell?_of_block (a := ⟨b6, 2, none⟩) (Qg2.out (b6) nc2.symm)).trans c_v2
      clear c_y0 c_y1 c_y2 c_v0 c_v1 c_v2
      have c_y0 := k_y0
      have c_y1 := k_y1
      have c_y2 := k_y2
      have c_v0 := k_v0
      have c_v1 := k_v1
      have c_v2 := k_v2
      clear k_y0 k_y1 k_y2 k_v0 k_v1 k_v2
      have HO1' := Lib.hid (owns_heap (W' := w10) HO1.out fun k hk => Qg2.out k (by cases hk; exact n12))
      have HP1' := Lib.hid (owns_heap (W' := w10) HP1.out fun k hk => Qg2.out k (by cases hk; exact n23.symm))
      have HP2' := Lib.hid (owns_heap (W' := w10) HP2.out fun k hk => Qg2.out k (by cases hk; exact n24.symm))
      replace d3 : w10.cell? ⟨g3, 3, none⟩ = some (.int .i64 X2) := (World.cell?_of_block (a := ⟨g3, 3, none⟩) (Qg2.out g3 n23.symm)).trans d3
      replace d4 : w10.frozen? ⟨g3, 3, none⟩ = false := by rw [frozen_of_block (Qg2.out g3 n23.symm)]; exact d4
      go_upto_region 10 with (fail)
      have Sg3 := own_store HP1'.out 3 1
      have Rg3 : Hid (IsRow .i64 (w10.setCell ⟨g3, 3, none⟩ (.int .i64 1)) (some ⟨g3, 0, none⟩) _) := Lib.hid Sg3.1
      have Qg3 : Hid (∀ q, q ≠ g3 → (w10.setCell ⟨g3, 3, none⟩ (.int .i64 1)).heap[q]? = w10.heap[q]?) := Lib.hid Sg3.2.1
      have Zg3 : (w10.setCell ⟨g3, 3, none⟩ (.int .i64 1)).heap.size = w10.heap.size := Sg3.2.2.1
      have Bg3 : Hid (Below wz.heap.size wz (w10.setCell ⟨g3, 3, none⟩ (.int .i64 1))) := Lib.hid (Sg3.2.2.2 Bg2.out hg3)
      clear Sg3
      generalize (w10.setCell ⟨g3, 3, none⟩ (.int .i64 1)) = w11 at *
      have k_y0 : w11.cell? ⟨b5, 0, none⟩ = some (.int .i64 3) := (World.cell?_of_block (a := ⟨b5, 0, none⟩) (Qg3.out (b5) nb3.symm)).trans c_y0
      have k_y1 : w11.cell? ⟨b5, 1, none⟩ = some (.slice (some ⟨g1, 0, none⟩) 7 xc) := (World.cell?_of_block (a := ⟨b5, 1, none⟩) (Qg3.out (b5) nb3.symm)).trans c_y1
      have k_y2 : w11.cell? ⟨b5, 2, none⟩ = some (.slice (some ⟨g2, 0, none⟩) 7 yc) := (World.cell?_of_block (a := ⟨b5, 2, none⟩) (Qg3.out (b5) nb3.symm)).trans c_y2
      have k_v0 : w11.cell? ⟨b6, 0, none⟩ = some (.int .i64 3) := (World.cell?_of_block (a := ⟨b6, 0, none⟩) (Qg3.out (b6) nc3.symm)).trans c_v0
      have k_v1 : w11.cell? ⟨b6, 1, none⟩ = some (.slice (some ⟨g3, 0, none⟩) 7 xc2) := (World.cell?_of_block (a := ⟨b6, 1, none⟩) (Qg3.out (b6) nc3.symm)).trans c_v1
      have k_v2 : w11.cell? ⟨b6, 2, none⟩ = some (.slice (some ⟨g4, 0, none⟩) 7 yc2) := (World.cell?_of_block (a := ⟨b6, 2, none⟩) (Qg3.out (b6) nc3.symm)).trans c_v2
      clear c_y0 c_y1 c_y2 c_v0 c_v1 c_v2
      have c_y0 := k_y0
      have c_y1 := k_y1
      have c_y2 := k_y2
      have c_v0 := k_v0
      have c_v1 := k_v1
      have c_v2 := k_v2
      clear k_y0 k_y1 k_y2 k_v0 k_v1 k_v2
      have HO1'' := Lib.hid (owns_heap (W' := w11) HO1'.out fun k hk => Qg3.out k (by cases hk; exact n13))
      have HP2'' := Lib.hid (owns_heap (W' := w11) HP2'.out fun k hk => Qg3.out k (by cases hk; exact n34.symm))
      have r1 : Hid (IsRow .i64 w11 (some ⟨g1, 0, none⟩) bm) := Lib.hid (by obtain ⟨a', c', h, h2, -⟩ := row_of_owns HO1''.out; cases h; exact h2)
      have r2 : Hid (IsRow .i64 w11 (some ⟨g2, 0, none⟩) (bc.set 0 6)) := Lib.hid (row_heap Rg2.out (by omega) fun b hb => by obtain ⟨o, ho⟩ := hb; cases ho; exact Qg3.out g2 n23)
      have r3 : Hid (IsRow .i64 w11 (some ⟨g3, 0, none⟩) (bm.set 3 1)) := Lib.hid Rg3.out
      have r4 : Hid (IsRow .i64 w11 (some ⟨g4, 0, none⟩) bc) := Lib.hid (by obtain ⟨a', c', h, h2, -⟩ := row_of_owns HP2''.out; cases h; exact h2)
      have hz11 : wz.heap.size ≤ w11.heap.size := Bg3.out.size
      have hB11 : Below w.heap.size w w11 := below_via Bg3.out hBz (by omega)
      have YR1 := Lib.hid (fun W (hb : Below w11.heap.size w11 W) => r1.out.below hb)
      have YR2 := Lib.hid (fun W (hb : Below w11.heap.size w11 W) => r2.out.below hb)
      have CY' := Lib.hid (fun W (hb : Below w11.heap.size w11 W) => CY.out _ _ xc yc W (r1.out.below hb) (r2.out.below hb))
      have CZ' := Lib.hid (fun W (hb : Below w11.heap.size w11 W) => CZ.out _ _ xc2 yc2 W (r3.out.below hb) (r4.out.below hb))
      have z_y : b5 < w11.heap.size := by omega
      have z_v : b6 < w11.heap.size := by omega
      have hzB11 := hB11.size
      clear Rg3 Qg3 Zg3 Bg3 Rg2 Qg2 Zg2 Bg2 HO1 HO2 HP1 HP2 HO1' HP1' HP2' HO1'' HP2'' r1 r2 r3 r4 d1 d2 d3 d4 HJ9 CY CZ
      refine wp_region_late 8 (by kernel_rfl) (N := 164) rfl (by kernel_rfl) (by kernel_rfl) (by decide) (fun w' => Below w11.heap.size w11 w') RB (factRAt [.is (ixV 3 (some ⟨g1, 0, none⟩) 7 xc (some ⟨g2, 0, none⟩) 7 yc), .sl w11.heap.size c, .is (.tuple #[.bool false, .int .i64 0]), .is (.tuple #[.bool false, .int .i64 0]), .is (.bool false), .is (.int .i64 0), .is (.bool false), .is (.int .i64 0)]) (factRAt_stays _) (Below.refl _ _).drew ?stepsq ?finq
      case stepsq =>
        refine ⟨?o0, ?o1, ?o2, ?o3, ?o4, ?o5, ?o6, ?o7, trivial⟩
        case o0 =>
          intro u a w' ev hJ hd K hK
          have e11 : a.tmps.getD 11 undef = .pointer (some ⟨b5, 0, none⟩) := ev 11 (by decide)
          have g0 := (hJ.cell (p := ⟨b5, 0, none⟩) (by dsimp only; omega)).trans c_y0
          have g1 := (hJ.cell (p := ⟨b5, 1, none⟩) (by dsimp only; omega)).trans c_y1
          have g2 := (hJ.cell (p := ⟨b5, 2, none⟩) (by dsimp only; omega)).trans c_y2
          have HK := Lib.hid hK
          clear hK ev hd
          go_simp
          exact HK.out _ _ (fun h => by cases h) hJ rfl (Below.refl _ _)
        case o1 =>
          intro u a w' ev hJ hd K hK
          have HK := Lib.hid hK
          have HC := Lib.hid (CH.out w')
          have hzJ := hJ.size
          clear hK ev hd
          go_simp
          refine HC.out.mono ?_
          rintro e w'' ⟨v1, v2, v3, v4, rfl, o1, o2, o3, o4, hb⟩
          exact HK.out _ _ (fun h => by cases h) (hJ.trans (hb.mono hzJ)) ⟨_, _, _, _, rfl, owns_base o1 hzJ, owns_base o2 hzJ, owns_base o3 hzJ, owns_base o4 hzJ⟩ hb
        case o2 =>
          intro u a w' ev hJ hd K hK
          obtain ⟨v1, v2, v3, v4, h2, o1, o2, o3, o4⟩ : (FactR.sl w11.heap.size c).holds (u 73) w' := hd 1 _ (by kernel_rfl) rfl
          obtain ⟨q1, k1, rfl, i1, -, -, -, -⟩ := row_of_owns o1
          obtain ⟨q2, k2, rfl, i2, -, -, -, -⟩ := row_of_owns o2
          obtain ⟨q3, k3, rfl, i3, -, -, -, -⟩ := row_of_owns o3
          obtain ⟨q4, k4, rfl, i4, -, -, -, -⟩ := row_of_owns o4
          have e72 : a.tmps.getD 72 undef = ixV 3 (some ⟨g1, 0, none⟩) 7 xc (some ⟨g2, 0, none⟩) 7 yc := (ev 72 (by decide)).trans (hd 0 _ (by kernel_rfl) rfl)
          have e73 : a.tmps.getD 73 undef = _ := (ev 73 (by decide)).trans h2
          have HK := Lib.hid hK
          have HC := Lib.hid (OY.out _ _ xc yc ⟨q1, q2, q3, q4, k1, k2, k3, k4⟩ w' ⟨i1, i2, i3, i4, HU.out⟩ (YR1.out _ hJ) (YR2.out _ hJ))
          have hzJ := hJ.size
          clear hK ev hd h2 o1 o2 o3 o4 i1 i2 i3 i4
          dsimp only [slV] at HC
          go_simp
          refine HC.out.mono ?_
          rintro e w'' ⟨rfl, hb⟩
          exact HK.out _ _ (fun h => by cases h) (hJ.trans (hb.mono hzJ)) rfl hb
        case o3 =>
          intro u a w' ev hJ hd K hK
          have e74 : a.tmps.getD 74 undef = .tuple #[.bool false, .int .i64 0] := (ev 74 (by decide)).trans (hd 2 _ (by kernel_rfl) rfl)
          have HK := Lib.hid hK
          clear hK ev hd
          go_simp
          exact HK.out _ _ (fun h => by cases h) hJ rfl (Below.refl _ _)
        case o4 =>
          intro u a w' ev hJ hd K hK
          have e71 : a.tmps.getD 71 undef = .tuple #[.bool false, .int .i64 0] := (ev 71 (by decide)).trans (hd 3 _ (by kernel_rfl) rfl)
          have HK := Lib.hid hK
          clear hK ev hd
          go_simp
          exact HK.out _ _ (fun h => by cases h) hJ rfl (Below.refl _ _)
        case o5 =>
          intro u a w' ev hJ hd K hK
          have e71 : a.tmps.getD 71 undef = .tuple #[.bool false, .int .i64 0] := (ev 71 (by decide)).trans (hd 3 _ (by kernel_rfl) rfl)
          have HK := Lib.hid hK
          clear hK ev hd
          go_simp
          exact HK.out _ _ (fun h => by cases h) hJ rfl (Below.refl _ _)
        case o6 =>
          intro u a w' ev hJ hd K hK
          have e75 : a.tmps.getD 75 undef = .bool false := (ev 75 (by decide)).trans (hd 4 _ (by kernel_rfl) rfl)
          have HK := Lib.hid hK
          clear hK ev hd
          go_simp
          exact HK.out _ _ (fun h => by cases h) hJ rfl (Below.refl _ _)
        case o7 =>
          intro u a w' ev hJ hd K hK
          have e76 : a.tmps.getD 76 undef = .int .i64 0 := (ev 76 (by decide)).trans (hd 5 _ (by kernel_rfl) rfl)
          have HK := Lib.hid hK
          clear hK ev hd
          go_simp
          exact HK.out _ _ (fun h => by cases h) hJ rfl (Below.refl _ _)
      case finq =>
        intro u wcq hJ hG
        have h0 : u 72 = ixV 3 (some ⟨g1, 0, none⟩) 7 xc (some ⟨g2, 0, none⟩) 7 yc := hG 0 _ rfl
        have h2 : u 74 = .tuple #[.bool false, .int .i64 0] := hG 2 _ rfl
        have h3 : u 71 = .tuple #[.bool false, .int .i64 0] := hG 3 _ rfl
        have h4 : u 75 = .bool false := hG 4 _ rfl
        have h5 : u 76 = .int .i64 0 := hG 5 _ rfl
        have h6 : u 13 = .bool false := hG 6 _ rfl
        have h7 : u 14 = .int .i64 0 := hG 7 _ rfl
        obtain ⟨v1, v2, v3, v4, h1, -, -, -, -⟩ : (FactR.sl w11.heap.size c).holds (u 73) wcq := hG 1 _ rfl
        have hz_wcq := hJ.size
        try simp only [World.size_alloc, World.size_setCell] at hz_wcq
        have all_c : wcq.cell? ⟨b5, 0, none⟩ = some (.int .i64 3) ∧ wcq.cell? ⟨b5, 1, none⟩ = some (.slice (some ⟨g1, 0, none⟩) 7 xc) ∧ wcq.cell? ⟨b5, 2, none⟩ = some (.slice (some ⟨g2, 0, none⟩) 7 yc) ∧ wcq.cell? ⟨b6, 0, none⟩ = some (.int .i64 3) ∧ wcq.cell? ⟨b6, 1, none⟩ = some (.slice (some ⟨g3, 0, none⟩) 7 xc2) ∧ wcq.cell? ⟨b6, 2, none⟩ = some (.slice (some ⟨g4, 0, none⟩) 7 yc2) := by refine ⟨?_, ?_, ?_, ?_, ?_, ?_⟩ <;> (refine (hJ.cell ?_).trans ?_ <;> first | (first | (with_reducible assumption) | omega | (simp only [World.size_alloc, World.size_setCell, World.size_drew, World.heap_drewN] <;> omega) | (simp <;> omega)) | (first | (with_reducible assumption) | ((try simp (disch := first | omega | (simp only [World.size_alloc, World.size_setCell, World.size_drew, World.heap_drewN] <;> omega) | fail) only [World.cell?_alloc_past, World.cell?_alloc_at, World.frozen?_alloc_past, World.frozen?_alloc_at, World.frozen?_setCell, World.cell?_drew, World.frozen?_drew]) <;> first | (with_reducible assumption) | rfl)))
        have all_z : b5 < wcq.heap.size ∧ b6 < wcq.heap.size := by refine ⟨?_, ?_⟩ <;> (omega)
        obtain ⟨c_y0, c_y1, c_y2, c_v0, c_v1, c_v2⟩ := all_c
        try clear all_c
        obtain ⟨z_y, z_v⟩ := all_z
        try clear all_z
        have HJCq : Below w11.heap.size w11 wcq := hJ
        clear hG hJ
        simp only [mixFrame, mixL, dstsOf, List.take_succ_cons, List.take_zero, List.filterMap_cons, List.filterMap_nil, List.contains_cons, List.contains_nil, Nat.reduceBEq, Bool.or_false, Bool.false_or, Bool.or_true, Bool.true_or, if_true, if_false, Bool.false_eq_true, Nat.reduceAdd, Nat.zero_add, List.drop_succ_cons, List.drop_zero, h0, h1, h2, h3, h4, h5, h6, h7]
        clear h0 h1 h2 h3 h4 h5 h6 h7
        have h12 : Below w11.heap.size w11 wcq := HJCq
        clear HJCq YR1 YR2 OY
        go_wp2_with fail
        refine (CH.out _).mono ?_
        rintro e w13 ⟨v1, v2, v3, v4, rfl, o1, o2, o3, o4, hb13⟩
        have hz_w13 := hb13.size
        try simp only [World.size_alloc, World.size_setCell] at hz_w13
        have all_c : w13.cell? ⟨b5, 0, none⟩ = some (.int .i64 3) ∧ w13.cell? ⟨b5, 1, none⟩ = some (.slice (some ⟨g1, 0, none⟩) 7 xc) ∧ w13.cell? ⟨b5, 2, none⟩ = some (.slice (some ⟨g2, 0, none⟩) 7 yc) ∧ w13.cell? ⟨b6, 0, none⟩ = some (.int .i64 3) ∧ w13.cell? ⟨b6, 1, none⟩ = some (.slice (some ⟨g3, 0, none⟩) 7 xc2) ∧ w13.cell? ⟨b6, 2, none⟩ = some (.slice (some ⟨g4, 0, none⟩) 7 yc2) := by refine ⟨?_, ?_, ?_, ?_, ?_, ?_⟩ <;> (refine (hb13.cell ?_).trans ?_ <;> first | (first | (with_reducible assumption) | omega | (simp only [World.size_alloc, World.size_setCell, World.size_drew, World.heap_drewN] <;> omega) | (simp <;> omega)) | (first | (with_reducible assumption) | ((try simp (disch := first | omega | (simp only [World.size_alloc, World.size_setCell, World.size_drew, World.heap_drewN] <;> omega) | fail) only [World.cell?_alloc_past, World.cell?_alloc_at, World.frozen?_alloc_past, World.frozen?_alloc_at, World.frozen?_setCell, World.cell?_drew, World.frozen?_drew]) <;> first | (with_reducible assumption) | rfl)))
        have all_z : b5 < w13.heap.size ∧ b6 < w13.heap.size := by refine ⟨?_, ?_⟩ <;> (omega)
        clear c_y0 c_y1 c_y2 c_v0 c_v1 c_v2 z_y z_v
        obtain ⟨c_y0, c_y1, c_y2, c_v0, c_v1, c_v2⟩ := all_c
        try clear all_c
        obtain ⟨z_y, z_v⟩ := all_z
        try clear all_z
        have h13 : Below w11.heap.size w11 w13 := below_via hb13 h12 (by omega)
        rw [H16.out] at o2
        obtain ⟨ao1, tc1, rfl, -⟩ := owns_news o1
        obtain ⟨ao2, tc2, rfl, -⟩ := owns_news o2
        obtain ⟨ao3, tc3, rfl, -⟩ := owns_news o3
        obtain ⟨ao4, tc4, rfl, -⟩ := owns_news o4
        obtain ⟨t1, rfl, ht1, ht1'⟩ := own_form o1 hc1
        obtain ⟨t2, rfl, ht2, ht2'⟩ := own_form o2 (by decide)
        obtain ⟨t3, rfl, ht3, ht3'⟩ := own_form o3 hc3
        obtain ⟨t4, rfl, ht4, ht4'⟩ := own_form o4 hc4
        have q1 := own_cell o2 (j := 0) (by rw [H16.out]; decide)
        have q2 := own_cell o3 (j := 0) (by omega)
        have q3 := own_cell o2 (j := 13) (by rw [H16.out]; decide)
        have u23 : t2 ≠ t3 := by
          rintro rfl
          have := q1.1.symm.trans q2.1
          simp only [Option.some.injEq, Value.int.injEq, true_and] at this
          exact HKV.out this
        have u12 : t1 ≠ t2 := by
          rcases owns_apart o1 o2 (by decide) with h | h
          · cases h
          · intro e; exact h (by rw [e]; rfl)
        have u24 : t2 ≠ t4 := by
          rcases owns_apart o2 o4 (by decide) with h | h
          · cases h
          · intro e; exact h (by rw [e]; rfl)
        generalize c.ks.getD 13 0 = X3 at q3
        obtain ⟨q31, q32⟩ := q3
        have St := own_store o2 13 9
        have P1 : Hid (IsRow .u64 (w13.setCell ⟨t2, 13, none⟩ (.int .i64 9)) (some ⟨t1, 0, none⟩) c.ws) := Lib.hid (by obtain ⟨a', c', h, h2, -⟩ := row_of_owns (owns_heap o1 fun k hk => St.2.1 k (by cases hk; exact u12)); cases h; exact h2)
        have P2 : Hid (IsRow .i64 (w13.setCell ⟨t2, 13, none⟩ (.int .i64 9)) (some ⟨t2, 0, none⟩) (c.ks.set 13 9)) := Lib.hid St.1
        have P3 : Hid (IsRow .i64 (w13.setCell ⟨t2, 13, none⟩ (.int .i64 9)) (some ⟨t3, 0, none⟩) c.vs) := Lib.hid (by obtain ⟨a', c', h, h2, -⟩ := row_of_owns (owns_heap o3 fun k hk => St.2.1 k (by cases hk; exact u23.symm)); cases h; exact h2)
        have P4 : Hid (IsRow .i64 (w13.setCell ⟨t2, 13, none⟩ (.int .i64 9)) (some ⟨t4, 0, none⟩) c.cs) := Lib.hid (by obtain ⟨a', c', h, h2, -⟩ := row_of_owns (owns_heap o4 fun k hk => St.2.1 k (by cases hk; exact u24.symm)); cases h; exact h2)
        have B14 : Hid (Below w11.heap.size w11 (w13.setCell ⟨t2, 13, none⟩ (.int .i64 9))) := Lib.hid (St.2.2.2 h13 (by omega))
        have zw14 : (w13.setCell ⟨t2, 13, none⟩ (.int .i64 9)).heap.size = w13.heap.size := St.2.2.1
        clear St q1 q2 o1 o2 o3 o4 hb13
        go_upto_region 13 with (fail)
        generalize (w13.setCell ⟨t2, 13, none⟩ (.int .i64 9)) = w14 at *
        have hz_w14 := B14.out.size
        try simp only [World.size_alloc, World.size_setCell] at hz_w14
        have all_c : w14.cell? ⟨b5, 0, none⟩ = some (.int .i64 3) ∧ w14.cell? ⟨b5, 1, none⟩ = some (.slice (some ⟨g1, 0, none⟩) 7 xc) ∧ w14.cell? ⟨b5, 2, none⟩ = some (.slice (some ⟨g2, 0, none⟩) 7 yc) ∧ w14.cell? ⟨b6, 0, none⟩ = some (.int .i64 3) ∧ w14.cell? ⟨b6, 1, none⟩ = some (.slice (some ⟨g3, 0, none⟩) 7 xc2) ∧ w14.cell? ⟨b6, 2, none⟩ = some (.slice (some ⟨g4, 0, none⟩) 7 yc2) := by refine ⟨?_, ?_, ?_, ?_, ?_, ?_⟩ <;> (refine (B14.out.cell ?_).trans ?_ <;> first | (first | (with_reducible assumption) | omega | (simp only [World.size_alloc, World.size_setCell, World.size_drew, World.heap_drewN] <;> omega) | (simp <;> omega)) | (first | (with_reducible assumption) | ((try simp (disch := first | omega | (simp only [World.size_alloc, World.size_setCell, World.size_drew, World.heap_drewN] <;> omega) | fail) only [World.cell?_alloc_past, World.cell?_alloc_at, World.frozen?_alloc_past, World.frozen?_alloc_at, World.frozen?_setCell, World.cell?_drew, World.frozen?_drew]) <;> first | (with_reducible assumption) | rfl)))
        have all_z : b5 < w14.heap.size ∧ b6 < w14.heap.size := by refine ⟨?_, ?_⟩ <;> (omega)
        clear c_y0 c_y1 c_y2 c_v0 c_v1 c_v2 z_y z_v
        obtain ⟨c_y0, c_y1, c_y2, c_v0, c_v1, c_v2⟩ := all_c
        try clear all_c
        obtain ⟨z_y, z_v⟩ := all_z
        try clear all_z
        have Z13 := Lib.hid zw14
        rw [← Z13.out]
        have BD14 := Lib.hid (fun W (hb : Below w14.heap.size w14 W) => BD.out _ _ _ _ tc1 tc2 tc3 tc4 W (P1.out.below hb) (P2.out.below hb) (P3.out.below hb) (P4.out.below hb))
        have hW : Below w11.heap.size w11 w14 := B14.out
        have hz14 : w11.heap.size ≤ w14.heap.size := hW.size
        clear h13 h12 q31 q32 zw14 P1 P2 P3 P4 BD B14
        go_wp2_with fail
        refine (BD14.out _ (by (repeat (first | (with_reducible exact Below.refl _ _) | (with_reducible assumption) | (with_reducible exact Hid.out (by with_reducible assumption)) | (with_reducible refine Below.alloc ?_ ?_ _) | (with_reducible refine Below.setCell ?_ ?_ _) | (with_reducible refine below_drewN ?_ _) | (with_reducible refine Below.drew ?_) | (with_reducible refine below_via (by with_reducible assumption) ?_ ?_) | (first | (with_reducible assumption) | omega | (simp only [World.size_alloc, World.size_setCell, World.size_drew, World.heap_drewN] <;> omega) | (simp <;> omega)))))).mono ?_
        rintro e w15 ⟨v5, u5, rfl, p1, p2, hb15⟩
        have hz_w15 := hb15.size
        try simp only [World.size_alloc, World.size_setCell] at hz_w15
        have all_c : w15.cell? ⟨b5, 0, none⟩ = some (.int .i64 3) ∧ w15.cell? ⟨b5, 1, none⟩ = some (.slice (some ⟨g1, 0, none⟩) 7 xc) ∧ w15.cell? ⟨b5, 2, none⟩ = some (.slice (some ⟨g2, 0, none⟩) 7 yc) ∧ w15.cell? ⟨b6, 0, none⟩ = some (.int .i64 3) ∧ w15.cell? ⟨b6, 1, none⟩ = some (.slice (some ⟨g3, 0, none⟩) 7 xc2) ∧ w15.cell? ⟨b6, 2, none⟩ = some (.slice (some ⟨g4, 0, none⟩) 7 yc2) ∧ w15.cell? ⟨w14.heap.size, 0, none⟩ = some (.int .i64 c.seg) ∧ w15.cell? ⟨w14.heap.size, 1, none⟩ = some (.slice (some ⟨t1, 0, none⟩) c.ws.length tc1) ∧ w15.cell? ⟨w14.heap.size, 2, none⟩ = some (.slice (some ⟨t2, 0, none⟩) 16 tc2) ∧ w15.cell? ⟨w14.heap.size, 3, none⟩ = some (.slice (some ⟨t3, 0, none⟩) c.vs.length tc3) ∧ w15.cell? ⟨w14.heap.size, 4, none⟩ = some (.slice (some ⟨t4, 0, none⟩) c.cs.length tc4) ∧ w15.cell? ⟨w14.heap.size, 5, none⟩ = some (.int .u64 c.laid) := by refine ⟨?_, ?_, ?_, ?_, ?_, ?_, ?_, ?_, ?_, ?_, ?_, ?_⟩ <;> (refine (hb15.cell ?_).trans ?_ <;> first | (first | (with_reducible assumption) | omega | (simp only [World.size_alloc, World.size_setCell, World.size_drew, World.heap_drewN] <;> omega) | (simp <;> omega)) | (first | (with_reducible assumption) | ((try simp (disch := first | omega | (simp only [World.size_alloc, World.size_setCell, World.size_drew, World.heap_drewN] <;> omega) | fail) only [World.cell?_alloc_past, World.cell?_alloc_at, World.frozen?_alloc_past, World.frozen?_alloc_at, World.frozen?_setCell, World.cell?_drew, World.frozen?_drew]) <;> first | (with_reducible assumption) | rfl)))
        have all_z : b5 < w15.heap.size ∧ b6 < w15.heap.size ∧ w14.heap.size < w15.heap.size := by refine ⟨?_, ?_, ?_⟩ <;> (omega)
        clear c_y0 c_y1 c_y2 c_v0 c_v1 c_v2 z_y z_v
        obtain ⟨c_y0, c_y1, c_y2, c_v0, c_v1, c_v2, c_s0, c_s1, c_s2, c_s3, c_s4, c_s5⟩ := all_c
        try clear all_c
        obtain ⟨z_y, z_v, z_s⟩ := all_z
        try clear all_z
        have h15 : Below w11.heap.size w11 w15 := below_via hb15 (hW.alloc (by omega) _) (by simp; omega)
        obtain ⟨e1, f1, rfl, -⟩ := owns_news p1
        obtain ⟨e2, f2, rfl, -⟩ := owns_news p2
        clear p1 p2 hb15 BD14
        go_wp2_with fail
        refine (BN.out _).mono ?_
        rintro e w16 ⟨v6, u6, rfl, p1, p2, hb16⟩
        have hz_w16 := hb16.size
        try simp only [World.size_alloc, World.size_setCell] at hz_w16
        have all_c : w16.cell? ⟨b5, 0, none⟩ = some (.int .i64 3) ∧ w16.cell? ⟨b5, 1, none⟩ = some (.slice (some ⟨g1, 0, none⟩) 7 xc) ∧ w16.cell? ⟨b5, 2, none⟩ = some (.slice (some ⟨g2, 0, none⟩) 7 yc) ∧ w16.cell? ⟨b6, 0, none⟩ = some (.int .i64 3) ∧ w16.cell? ⟨b6, 1, none⟩ = some (.slice (some ⟨g3, 0, none⟩) 7 xc2) ∧ w16.cell? ⟨b6, 2, none⟩ = some (.slice (some ⟨g4, 0, none⟩) 7 yc2) := by refine ⟨?_, ?_, ?_, ?_, ?_, ?_⟩ <;> (refine (hb16.cell ?_).trans ?_ <;> first | (first | (with_reducible assumption) | omega | (simp only [World.size_alloc, World.size_setCell, World.size_drew, World.heap_drewN] <;> omega) | (simp <;> omega)) | (first | (with_reducible assumption) | ((try simp (disch := first | omega | (simp only [World.size_alloc, World.size_setCell, World.size_drew, World.heap_drewN] <;> omega) | fail) only [World.cell?_alloc_past, World.cell?_alloc_at, World.frozen?_alloc_past, World.frozen?_alloc_at, World.frozen?_setCell, World.cell?_drew, World.frozen?_drew]) <;> first | (with_reducible assumption) | rfl)))
        have all_z : b5 < w16.heap.size ∧ b6 < w16.heap.size := by refine ⟨?_, ?_⟩ <;> (omega)
        clear c_y0 c_y1 c_y2 c_v0 c_v1 c_v2 z_y z_v
        obtain ⟨c_y0, c_y1, c_y2, c_v0, c_v1, c_v2⟩ := all_c
        try clear all_c
        obtain ⟨z_y, z_v⟩ := all_z
        try clear all_z
        have h16 : Below w11.heap.size w11 w16 := below_via hb16 (h15.alloc (by omega) _) (by simp; omega)
        obtain ⟨e3, f3, rfl, -⟩ := owns_news p1
        obtain ⟨e4, f4, rfl, -⟩ := owns_news p2
        clear p1 p2 hb16 h15
        go_wp2_with fail
        refine (NW.out _).mono ?_
        rintro e w17 ⟨v7, v8, v9, v10, rfl, o1, o2, o3, o4, hb17⟩
        have hz_w17 := hb17.size
        try simp only [World.size_alloc, World.size_setCell] at hz_w17
        have all_c : w17.cell? ⟨b5, 0, none⟩ = some (.int .i64 3) ∧ w17.cell? ⟨b5, 1, none⟩ = some (.slice (some ⟨g1, 0, none⟩) 7 xc) ∧ w17.cell? ⟨b5, 2, none⟩ = some (.slice (some ⟨g2, 0, none⟩) 7 yc) ∧ w17.cell? ⟨b6, 0, none⟩ = some (.int .i64 3) ∧ w17.cell? ⟨b6, 1, none⟩ = some (.slice (some ⟨g3, 0, none⟩) 7 xc2) ∧ w17.cell? ⟨b6, 2, none⟩ = some (.slice (some ⟨g4, 0, none⟩) 7 yc2) := by refine ⟨?_, ?_, ?_, ?_, ?_, ?_⟩ <;> (refine (hb17.cell ?_).trans ?_ <;> first | (first | (with_reducible assumption) | omega | (simp only [World.size_alloc, World.size_setCell, World.size_drew, World.heap_drewN] <;> omega) | (simp <;> omega)) | (first | (with_reducible assumption) | ((try simp (disch := first | omega | (simp only [World.size_alloc, World.size_setCell, World.size_drew, World.heap_drewN] <;> omega) | fail) only [World.cell?_alloc_past, World.cell?_alloc_at, World.frozen?_alloc_past, World.frozen?_alloc_at, World.frozen?_setCell, World.cell?_drew, World.frozen?_drew]) <;> first | (with_reducible assumption) | rfl)))
        have all_z : b5 < w17.heap.size ∧ b6 < w17.heap.size := by refine ⟨?_, ?_⟩ <;> (omega)
        clear c_y0 c_y1 c_y2 c_v0 c_v1 c_v2 z_y z_v
        obtain ⟨c_y0, c_y1, c_y2, c_v0, c_v1, c_v2⟩ := all_c
        try clear all_c
        obtain ⟨z_y, z_v⟩ := all_z
        try clear all_z
        have h17 : Below w11.heap.size w11 w17 := below_via hb17 (h16.alloc (by omega) _) (by simp; omega)
        obtain ⟨y1, z1, rfl, i1, -, -, -, -⟩ := row_of_owns o1
        obtain ⟨y2, z2, rfl, i2, -, -, -, -⟩ := row_of_owns o2
        obtain ⟨y3, z3, rfl, i3, -, -, -, -⟩ := row_of_owns o3
        obtain ⟨y4, z4, rfl, i4, -, -, -, -⟩ := row_of_owns o4
        have BE17 := Lib.hid (fun W (hb : Below w17.heap.size w17 W) => BE.out ⟨y1, y2, y3, y4, z1, z2, z3, z4⟩ W ⟨i1.below hb, i2.below hb, i3.below hb, i4.below hb, HUE.out⟩)
        clear o1 o2 o3 o4 i1 i2 i3 i4 hb17 h16 BE NW BN
        go_wp2_with fail
        refine (BE17.out _ (by (repeat (first | (with_reducible exact Below.refl _ _) | (with_reducible assumption) | (with_reducible exact Hid.out (by with_reducible assumption)) | (with_reducible refine Below.alloc ?_ ?_ _) | (with_reducible refine Below.setCell ?_ ?_ _) | (with_reducible refine below_drewN ?_ _) | (with_reducible refine Below.drew ?_) | (with_reducible refine below_via (by with_reducible assumption) ?_ ?_) | (first | (with_reducible assumption) | omega | (simp only [World.size_alloc, World.size_setCell, World.size_drew, World.heap_drewN] <;> omega) | (simp <;> omega)))))).mono ?_
        rintro e w18 ⟨v5, u5, rfl, p1, p2, hb18⟩
        have hz_w18 := hb18.size
        try simp only [World.size_alloc, World.size_setCell] at hz_w18
        have all_c : w18.cell? ⟨b5, 0, none⟩ = some (.int .i64 3) ∧ w18.cell? ⟨b5, 1, none⟩ = some (.slice (some ⟨g1, 0, none⟩) 7 xc) ∧ w18.cell? ⟨b5, 2, none⟩ = some (.slice (some ⟨g2, 0, none⟩) 7 yc) ∧ w18.cell? ⟨b6, 0, none⟩ = some (.int .i64 3) ∧ w18.cell? ⟨b6, 1, none⟩ = some (.slice (some ⟨g3, 0, none⟩) 7 xc2) ∧ w18.cell? ⟨b6, 2, none⟩ = some (.slice (some ⟨g4, 0, none⟩) 7 yc2) ∧ w18.cell? ⟨w17.heap.size, 0, none⟩ = some (.int .i64 e.seg) ∧ w18.cell? ⟨w17.heap.size, 1, none⟩ = some (.slice y1 e.ws.length z1) ∧ w18.cell? ⟨w17.heap.size, 2, none⟩ = some (.slice y2 e.ks.length z2) ∧ w18.cell? ⟨w17.heap.size, 3, none⟩ = some (.slice y3 e.vs.length z3) ∧ w18.cell? ⟨w17.heap.size, 4, none⟩ = some (.slice y4 e.cs.length z4) ∧ w18.cell? ⟨w17.heap.size, 5, none⟩ = some (.int .u64 e.laid) := by refine ⟨?_, ?_, ?_, ?_, ?_, ?_, ?_, ?_, ?_, ?_, ?_, ?_⟩ <;> (refine (hb18.cell ?_).trans ?_ <;> first | (first | (with_reducible assumption) | omega | (simp only [World.size_alloc, World.size_setCell, World.size_drew, World.heap_drewN] <;> omega) | (simp <;> omega)) | (first | (with_reducible assumption) | ((try simp (disch := first | omega | (simp only [World.size_alloc, World.size_setCell, World.size_drew, World.heap_drewN] <;> omega) | fail) only [World.cell?_alloc_past, World.cell?_alloc_at, World.frozen?_alloc_past, World.frozen?_alloc_at, World.frozen?_setCell, World.cell?_drew, World.frozen?_drew]) <;> first | (with_reducible assumption) | rfl)))
        have all_z : b5 < w18.heap.size ∧ b6 < w18.heap.size ∧ w17.heap.size < w18.heap.size := by refine ⟨?_, ?_, ?_⟩ <;> (omega)
        clear c_y0 c_y1 c_y2 c_v0 c_v1 c_v2 z_y z_v
        obtain ⟨c_y0, c_y1, c_y2, c_v0, c_v1, c_v2, c_g0, c_g1, c_g2, c_g3, c_g4, c_g5⟩ := all_c
        try clear all_c
        obtain ⟨z_y, z_v, z_g⟩ := all_z
        try clear all_z
        have h18 : Below w11.heap.size w11 w18 := below_via hb18 (h17.alloc (by omega) _) (by simp; omega)
        obtain ⟨e5, f5, rfl, -⟩ := owns_news p1
        obtain ⟨e6, f6, rfl, -⟩ := owns_news p2
        clear p1 p2 hb18 h17 BE17
        go_wp2_with fail
        refine (AL.out _).mono ?_
        rintro e w19 ⟨rfl, hb19⟩
        have hz_w19 := hb19.size
        try simp only [World.size_alloc, World.size_setCell] at hz_w19
        have all_c : w19.cell? ⟨b5, 0, none⟩ = some (.int .i64 3) ∧ w19.cell? ⟨b5, 1, none⟩ = some (.slice (some ⟨g1, 0, none⟩) 7 xc) ∧ w19.cell? ⟨b5, 2, none⟩ = some (.slice (some ⟨g2, 0, none⟩) 7 yc) ∧ w19.cell? ⟨b6, 0, none⟩ = some (.int .i64 3) ∧ w19.cell? ⟨b6, 1, none⟩ = some (.slice (some ⟨g3, 0, none⟩) 7 xc2) ∧ w19.cell? ⟨b6, 2, none⟩ = some (.slice (some ⟨g4, 0, none⟩) 7 yc2) := by refine ⟨?_, ?_, ?_, ?_, ?_, ?_⟩ <;> (refine (hb19.cell ?_).trans ?_ <;> first | (first | (with_reducible assumption) | omega | (simp only [World.size_alloc, World.size_setCell, World.size_drew, World.heap_drewN] <;> omega) | (simp <;> omega)) | (first | (with_reducible assumption) | ((try simp (disch := first | omega | (simp only [World.size_alloc, World.size_setCell, World.size_drew, World.heap_drewN] <;> omega) | fail) only [World.cell?_alloc_past, World.cell?_alloc_at, World.frozen?_alloc_past, World.frozen?_alloc_at, World.frozen?_setCell, World.cell?_drew, World.frozen?_drew]) <;> first | (with_reducible assumption) | rfl)))
        have all_z : b5 < w19.heap.size ∧ b6 < w19.heap.size := by refine ⟨?_, ?_⟩ <;> (omega)
        clear c_y0 c_y1 c_y2 c_v0 c_v1 c_v2 z_y z_v
        obtain ⟨c_y0, c_y1, c_y2, c_v0, c_v1, c_v2⟩ := all_c
        try clear all_c
        obtain ⟨z_y, z_v⟩ := all_z
        try clear all_z
        have h19 : Below w11.heap.size w11 w19 := below_via hb19 (h18.alloc (by omega) _) (by simp; omega)
        clear hb19 h18
        go_wp2_with fail
        refine (CY'.out _ h19).mono ?_
        rintro e w20 ⟨rfl, hb20⟩
        have hz_w20 := hb20.size
        try simp only [World.size_alloc, World.size_setCell] at hz_w20
        have all_c : w20.cell? ⟨b5, 0, none⟩ = some (.int .i64 3) ∧ w20.cell? ⟨b5, 1, none⟩ = some (.slice (some ⟨g1, 0, none⟩) 7 xc) ∧ w20.cell? ⟨b5, 2, none⟩ = some (.slice (some ⟨g2, 0, none⟩) 7 yc) ∧ w20.cell? ⟨b6, 0, none⟩ = some (.int .i64 3) ∧ w20.cell? ⟨b6, 1, none⟩ = some (.slice (some ⟨g3, 0, none⟩) 7 xc2) ∧ w20.cell? ⟨b6, 2, none⟩ = some (.slice (some ⟨g4, 0, none⟩) 7 yc2) := by refine ⟨?_, ?_, ?_, ?_, ?_, ?_⟩ <;> (refine (hb20.cell ?_).trans ?_ <;> first | (first | (with_reducible assumption) | omega | (simp only [World.size_alloc, World.size_setCell, World.size_drew, World.heap_drewN] <;> omega) | (simp <;> omega)) | (first | (with_reducible assumption) | ((try simp (disch := first | omega | (simp only [World.size_alloc, World.size_setCell, World.size_drew, World.heap_drewN] <;> omega) | fail) only [World.cell?_alloc_past, World.cell?_alloc_at, World.frozen?_alloc_past, World.frozen?_alloc_at, World.frozen?_setCell, World.cell?_drew, World.frozen?_drew]) <;> first | (with_reducible assumption) | rfl)))
        have all_z : b5 < w20.heap.size ∧ b6 < w20.heap.size := by refine ⟨?_, ?_⟩ <;> (omega)
        clear c_y0 c_y1 c_y2 c_v0 c_v1 c_v2 z_y z_v
        obtain ⟨c_y0, c_y1, c_y2, c_v0, c_v1, c_v2⟩ := all_c
        try clear all_c
        obtain ⟨z_y, z_v⟩ := all_z
        try clear all_z
        have h20 : Below w11.heap.size w11 w20 := below_via hb20 h19 (by omega)
        clear hb20 h19
        go_wp2_with fail
        refine (CZ'.out _ h20).mono ?_
        rintro e w21 ⟨rfl, hb21⟩
        have hz_w21 := hb21.size
        try simp only [World.size_alloc, World.size_setCell] at hz_w21
        have all_c : w21.cell? ⟨b5, 0, none⟩ = some (.int .i64 3) ∧ w21.cell? ⟨b5, 1, none⟩ = some (.slice (some ⟨g1, 0, none⟩) 7 xc) ∧ w21.cell? ⟨b5, 2, none⟩ = some (.slice (some ⟨g2, 0, none⟩) 7 yc) ∧ w21.cell? ⟨b6, 0, none⟩ = some (.int .i64 3) ∧ w21.cell? ⟨b6, 1, none⟩ = some (.slice (some ⟨g3, 0, none⟩) 7 xc2) ∧ w21.cell? ⟨b6, 2, none⟩ = some (.slice (some ⟨g4, 0, none⟩) 7 yc2) := by refine ⟨?_, ?_, ?_, ?_, ?_, ?_⟩ <;> (refine (hb21.cell ?_).trans ?_ <;> first | (first | (with_reducible assumption) | omega | (simp only [World.size_alloc, World.size_setCell, World.size_drew, World.heap_drewN] <;> omega) | (simp <;> omega)) | (first | (with_reducible assumption) | ((try simp (disch := first | omega | (simp only [World.size_alloc, World.size_setCell, World.size_drew, World.heap_drewN] <;> omega) | fail) only [World.cell?_alloc_past, World.cell?_alloc_at, World.frozen?_alloc_past, World.frozen?_alloc_at, World.frozen?_setCell, World.cell?_drew, World.frozen?_drew]) <;> first | (with_reducible assumption) | rfl)))
        have all_z : b5 < w21.heap.size ∧ b6 < w21.heap.size := by refine ⟨?_, ?_⟩ <;> (omega)
        clear c_y0 c_y1 c_y2 c_v0 c_v1 c_v2 z_y z_v
        obtain ⟨c_y0, c_y1, c_y2, c_v0, c_v1, c_v2⟩ := all_c
        try clear all_c
        obtain ⟨z_y, z_v⟩ := all_z
        try clear all_z
        have h21 : Below w11.heap.size w11 w21 := below_via hb21 h20 (by omega)
        clear hb21 h20
        go_wp2_with fail
        refine (C0.out _).mono ?_
        rintro e w22 ⟨rfl, hb22⟩
        have hz_w22 := hb22.size
        try simp only [World.size_alloc, World.size_setCell] at hz_w22
        have all_c : w22.cell? ⟨b5, 0, none⟩ = some (.int .i64 3) ∧ w22.cell? ⟨b5, 1, none⟩ = some (.slice (some ⟨g1, 0, none⟩) 7 xc) ∧ w22.cell? ⟨b5, 2, none⟩ = some (.slice (some ⟨g2, 0, none⟩) 7 yc) ∧ w22.cell? ⟨b6, 0, none⟩ = some (.int .i64 3) ∧ w22.cell? ⟨b6, 1, none⟩ = some (.slice (some ⟨g3, 0, none⟩) 7 xc2) ∧ w22.cell? ⟨b6, 2, none⟩ = some (.slice (some ⟨g4, 0, none⟩) 7 yc2) := by refine ⟨?_, ?_, ?_, ?_, ?_, ?_⟩ <;> (refine (hb22.cell ?_).trans ?_ <;> first | (first | (with_reducible assumption) | omega | (simp only [World.size_alloc, World.size_setCell, World.size_drew, World.heap_drewN] <;> omega) | (simp <;> omega)) | (first | (with_reducible assumption) | ((try simp (disch := first | omega | (simp only [World.size_alloc, World.size_setCell, World.size_drew, World.heap_drewN] <;> omega) | fail) only [World.cell?_alloc_past, World.cell?_alloc_at, World.frozen?_alloc_past, World.frozen?_alloc_at, World.frozen?_setCell, World.cell?_drew, World.frozen?_drew]) <;> first | (with_reducible assumption) | rfl)))
        have all_z : b5 < w22.heap.size ∧ b6 < w22.heap.size := by refine ⟨?_, ?_⟩ <;> (omega)
        clear c_y0 c_y1 c_y2 c_v0 c_v1 c_v2 z_y z_v
        obtain ⟨c_y0, c_y1, c_y2, c_v0, c_v1, c_v2⟩ := all_c
        try clear all_c
        obtain ⟨z_y, z_v⟩ := all_z
        try clear all_z
        have h22 : Below w11.heap.size w11 w22 := below_via hb22 h21 (by omega)
        clear hb22 h21
        go_wp2_with fail
        have ra := alloc_new w22 (.cells #[.int .i64 0] 2)
        have hba : Below w22.heap.size w22 (w22.alloc (.cells #[.int .i64 0] 2)) := (Below.refl _ _).alloc (Nat.le_refl _) _
        have hsa : (w22.alloc (.cells #[.int .i64 0] 2)).heap.size = w22.heap.size + 1 := by simp
        generalize w22.alloc (.cells #[.int .i64 0] 2) = wa at *
        have rb := alloc_new wa (.cells #[.int .i64 0] 3)
        have hbb : Below wa.heap.size wa (wa.alloc (.cells #[.int .i64 0] 3)) := (Below.refl _ _).alloc (Nat.le_refl _) _
        generalize wa.alloc (.cells #[.int .i64 0] 3) = wb at *
        rw [hsa] at rb
        have r1 : IsRow .i64 wb (some ⟨w22.heap.size, 0, none⟩) [0] := (row_cells ra rfl).below hbb
        have r2 : IsRow .i64 wb (some ⟨w22.heap.size + 1, 0, none⟩) [0] := row_cells rb rfl
        have h23 : Below w22.heap.size w22 wb := hba.trans (hbb.mono (by omega))
        refine (C1.out _ _ 1 1 wb r1 r2).mono ?_
        rintro e' w23 ⟨rfl, hb23⟩
        go_wp2
        go_ret
        have hs1 := h22.size
        have hs2 := h23.size
        exact ⟨rfl, below_via (below_via (below_via hb23 h23 (by omega)) h22 (by omega)) hB11 (by omega)⟩

theorem bd_of (c d : SlC) (hd : d = ⟨c.seg, c.ws, c.ks.set 13 9, c.vs, c.cs, c.laid⟩) (h16 : c.ks.length = 16) (h1 : c.ws.length ≤ 1000000000000) (hu : U64s c.ws) (hE : bldE d = 130) (a1 a2 a3 a4 : Option Addr) (k1 k2 k3 k4 : Nat) (W : World) (i1 : IsRow .u64 W a1 c.ws) (i2 : IsRow .i64 W a2 (c.ks.set 13 9)) (i3 : IsRow .i64 W a3 c.vs) (i4 : IsRow .i64 W a4 c.cs) :
    Calls Try.prog 21 #[.agg #[.int .i64 c.seg, .slice a1 c.ws.length k1, .slice a2 16 k2, .slice a3 c.vs.length k3, .slice a4 c.cs.length k4, .int .u64 c.laid]] W (FreshIx2 W (bldL d) (bldM d) (bldC d) (.int .i64 130)) := by
  subst hd
  have := BuildIx_ok ⟨c.seg, c.ws, c.ks.set 13 9, c.vs, c.cs, c.laid⟩ ⟨a1, a2, a3, a4, k1, k2, k3, k4⟩ h1 (by dsimp only; rw [List.length_set]; omega) W ⟨i1, i2, i3, i4, hu⟩
  rw [hE] at this
  dsimp only [slV] at this
  rw [List.length_set, h16] at this
  exact this
set_option maxHeartbeats 4000000 in
theorem IndexNames_walk (w : World) : Calls Try.prog 6 #[] w fun e w' => e = .returned (.bool true) ∧ Below w.heap.size w w' := by
  have hc : chC.ws.length = 1 ∧ chC.ks.length = 16 ∧ chC.vs.length = 16 ∧ chC.cs.length = 4 ∧ chC.ks.getD 0 0 = 1 ∧ chC.vs.getD 0 0 = 0 := by
    rw [chC_eq]
    decide
  have hu : U64s bigC.ws := fun x hx => by
    have := List.eq_of_mem_replicate hx
    omega
  have hl := ch_len
  have l1 : ((bldM chC).set 3 1).length = 7 := by rw [List.length_set, hl.1]
  have l2 : ((bldC chC).set 0 6).length = 7 := by rw [List.length_set, hl.2]
  have bl : bigC.ws.length ≤ 1000000000000 ∧ bigC.ks.length ≤ 1000000000000 := ⟨by rw [show bigC.ws.length = 1024 from List.length_replicate]; decide, by rw [show bigC.ks.length = 65536 from List.length_replicate]; decide⟩
  refine Names_in chC chD bigC (bldM chC) (bldC chC) hl.1 hl.2 hc.2.1 (by omega) (by omega) (by omega) (by omega) chC_u hu w (Lib.hid alive_ok) (Lib.hid chapter_ok) (Lib.hid fun a W h => ?_) (Lib.hid fun a1 a2 a3 a4 k1 k2 k3 k4 W h1 h2 h3 h4 => ?_) (Lib.hid fun a W h => ?_) (Lib.hid fun W => ?_) (Lib.hid fun W => ?_) (Lib.hid fun xa xb xc xd W h1 h2 => ?_) (Lib.hid fun xa xb xc xd W h1 h2 => ?_) (Lib.hid fun xa xb xc xd a W h h1 h2 => ?_) (Lib.hid fun xa xb xc xd a W h h1 h2 => ?_) (Lib.hid fun xa xb xc xd W h1 h2 => ?_) (Lib.hid fun xa xb xc xd W h1 h2 => ?_) (Lib.hid fun xa xb xc xd W h1 h2 => ?_) (Lib.hid fun W => ?_) (Lib.hid fun xa xb xc xd W h1 h2 => ?_)
  · have := BuildIx_ok chC a (by omega) (by omega) W h
    rw [chC_bld, chC_lev] at this
    exact this
  · exact bd_of chC chD rfl hc.2.1 (by omega) chC_u chD_E a1 a2 a3 a4 k1 k2 k3 k4 W h1 h2 h3 h4
  · have := BuildIx_ok bigC a bl.1 bl.2 W h
    rw [bigC_E] at this
    exact this
  · have := BuildIx_ok nilC ⟨none, none, none, none, 0, 0, 0, 0⟩ (by decide) (by decide) W ⟨fun i hi => absurd hi (Nat.not_lt_zero _), fun i hi => absurd hi (Nat.not_lt_zero _), fun i hi => absurd hi (Nat.not_lt_zero _), fun i hi => absurd hi (Nat.not_lt_zero _), fun x hx => by cases hx⟩
    rw [nilC_E] at this
    exact this
  · exact slNew_core W 4 65536 1024 16384 (by decide) (by decide) (by decide) (by decide) (by decide) (by decide) (by decide) (Lib.hid fun W' => fits_ok 4 65536 W')
  · have := At_ix 3 8 xa xb xc xd (bldM chC) (bldC chC) W h1 h2
    rw [hl.1, hl.2, ch_out.1.1, ch_out.1.2.1, ch_out.1.2.2] at this
    exact this
  · have := At_ix 3 0 xa xb xc xd (bldM chC) (bldC chC) W h1 h2
    rw [hl.1, hl.2, ch_out.2.1, ch_out.2.2.1, ch_out.2.2.2] at this
    exact this
  · have := OfIx_ok 3 xa xb xc xd (bldM chC) (bldC chC) chC a (by omega) (by omega) W h h1 h2 (by omega) (by omega)
    rw [hl.1, hl.2, ch_bad.2.2.2, chC_bld] at this
    exact this
  · have := OfIx_ok 3 xa xb xc xd (bldM chC) ((bldC chC).set 0 6) chC a (by omega) (by omega) W h h1 h2 (by omega) (by omega)
    rw [hl.1, l2, ch_bad.2.2.1, chC_bld] at this
    exact this
  · have := Twin_ix 3 xa xb xc xd (bldM chC) (bldC chC) W h1 h2 (by omega) (by omega)
    rw [hl.1, hl.2] at this
    exact this
  · have := Check_ix 3 xa xb xc xd (bldM chC) ((bldC chC).set 0 6) W h1 h2
    rw [hl.1, l2, ch_bad.1] at this
    exact this
  · have := Check_ix 3 xa xb xc xd ((bldM chC).set 3 1) (bldC chC) W h1 h2
    rw [l1, hl.2, ch_bad.2.1] at this
    exact this
  · have := Check_ix 0 none none 0 0 [] [] W (fun i hi => absurd hi (Nat.not_lt_zero _)) (fun i hi => absurd hi (Nat.not_lt_zero _))
    rw [one_ok.2] at this
    exact this
  · have := Check_ix 1 xa xb xc xd [0] [0] W h1 h2
    rw [one_ok.1] at this
    exact this
end Go.Proofs.Ytelckhfmchnpnaa
