/- Merged: BuildIx, BuildIxs. -/
import Derived.Test.YtbmibaafkgleeaaBlt18
import Derived.Test.YtbmibaafkgleeaaIdxRd
import Derived.Test.YtbmibaafkgleeaaBitFits
import Derived.Test.YtbmibaafkgleeaaSeekAll
import Derived.Test.YtbmibaafkgleeaaInvL
import Derived.Test.YtbmibaafkgleeaaIdxEq
namespace Go.Proofs.Ytbmibaafkgleeaa
set_option linter.unusedVariables false
set_option linter.unusedSimpArgs false
section
open Go.RowKit Go.Shelf
attribute [local go_sem] Oper.semAt_some

/-- facts that stay under a relation of one's own -/
structure FactR (R : World → World → Prop) where
  holds : Value → World → Prop
  stays : ∀ v w w', R w w' → holds v w → holds v w'
def FactR.any (R : World → World → Prop) : FactR R := ⟨fun _ _ => True, fun _ _ _ _ _ => trivial⟩
def FactR.is {R : World → World → Prop} (x : Value) : FactR R := ⟨fun v _ => v = x, fun _ _ _ _ h => h⟩
def FactR.now {R : World → World → Prop} (S : World → Prop) (h : ∀ w w', R w w' → S w → S w') : FactR R := ⟨fun _ w => S w, fun _ w w' hr h1 => h w w' hr h1⟩
def factRAt {R : World → World → Prop} (fs : List (FactR R)) (k : Nat) (v : Value) (w : World) : Prop := (fs.getD k (FactR.any R)).holds v w
theorem factRAt_stays {R : World → World → Prop} (fs : List (FactR R)) (k : Nat) (v : Value) (w w' : World) (h : R w w') : factRAt fs k v w → factRAt fs k v w' := (fs.getD k (FactR.any R)).stays _ _ _ h
/-- but for the block g all is as in X; the block g is as it was, or as it shall be -/
def JB (g : Nat) (X : World) (old new : World → Prop) (w' : World) : Prop := (∀ q, q ≠ g → w'.heap[q]? = X.heap[q]?) ∧ w'.heap.size = X.heap.size ∧ (w'.os = X.os ∧ w'.tape = X.tape ∧ w'.output = X.output) ∧ (old w' ∨ new w')
/-- what the nodes from above n on tell -/
def dn (f : Nat → Int) (n : Nat) : Nat → Int := fun m => if n < m then f m else 0
theorem putF_dn (f : Nat → Int) (n : Nat) (h0 : 1 ≤ n) : putF (dn f n) n (f n) = dn f (n - 1) := by
  funext m
  unfold putF dn
  by_cases e : m = n
  · subst e; rw [if_pos rfl, if_pos (by omega)]
  · rw [if_neg e]
    by_cases h : n < m
    · rw [if_pos (by omega), if_pos (by omega)]
    · rw [if_neg (by omega), if_neg (by omega)]

set_option maxRecDepth 100000 in
set_option maxHeartbeats 1000000 in
theorem BuildIx_main (seg : Int) (wa ka va ca : Option Addr) (wc kc vc cc lw lk lv lc : Nat) (laid : Int) (w : World) (D : Int) (L N : Nat) (hl : D + 1 = L) (h1 : 1 ≤ L) (h2 : L ≤ 14) (hN : N + 1 = 2 ^ L) (hlc : N + 1 = 2 * lc) (fm fc : Nat → Int)
    (CK : Hid (∀ W, Below w.heap.size w W → Calls Try.prog 50 #[.agg #[.int .i64 seg, .slice wa lw wc, .slice ka lk kc, .slice va lv vc, .slice ca lc cc, .int .u64 laid]] W (AnsB W (.int .i64 0))))
    (DW : Hid (∀ W, Calls Try.prog 51 #[.int .i64 lc] W fun e w' => e = .returned (.tuple #[.int .i64 D, .int .i64 0]) ∧ W = w'))
    (LF : Hid (∀ W, Below w.heap.size w W → ∀ n : Nat, lc ≤ n → n ≤ N → Calls Try.prog 53 #[.agg #[.int .i64 seg, .slice wa lw wc, .slice ka lk kc, .slice va lv vc, .slice ca lc cc, .int .u64 laid], .int .i64 ((n : Int) - lc)] W (AnsB W (tdV (fm n) (fc n)))))
    (AB : Hid (∀ n : Nat, 1 ≤ n → n < lc → ∀ W, Calls Try.prog 54 #[tdV (fm (2 * n)) (fc (2 * n)), tdV (fm (2 * n + 1)) (fc (2 * n + 1))] W (AnsB W (tdV (fm n) (fc n))))) :
    Calls Try.prog 23 #[.agg #[.int .i64 seg, .slice wa lw wc, .slice ka lk kc, .slice va lv vc, .slice ca lc cc, .int .u64 laid]] w (FreshIx2 w (D + 1) (bltF L fm fun _ => true) (bltF L fc fun _ => true) (.int .i64 0)) := by
  have hNb : N + 1 ≤ 16384 := by rw [hN]; exact Nat.pow_le_pow_right (by omega) h2
  have hlb : 0 ≤ D ∧ D ≤ 13 := by omega
  have NDS := Lib.hid (fun W => nodes_ok L (D + 1) hl h1 h2 W)
  rw [← hN] at NDS
  have hlenP : (plc L).length = N := by rw [plc_length]; omega
  have HPG := Lib.hid (fun n (h0 : 1 ≤ n) (h : n ≤ N) => (plc_get (L := L) (n := n) h1 h0 (by omega)))
  have HPV := Lib.hid (fun n (h0 : 1 ≤ n) (h : n ≤ N) => (vpos_lay (L := L) (n := n) h1 h0 (by omega)).1)
  have HB0 := Lib.hid (fun f => bltF_none L h1 f (p := fun m => decide (N < m)) (by intro n a b; simp; omega))
  have HBL := Lib.hid (fun f p => bltF_length (L := L) h1 f p)
  have HBS := Lib.hid (fun f n (h0 : 1 ≤ n) (h : n ≤ N) => bltF_set (L := L) h1 f (p := fun m => decide (n < m)) (q := fun m => decide (n - 1 < m)) (n := n) h0 (by omega) (by simp; omega) (by intro m hm; simp; omega))
  have HBS2 := Lib.hid (fun f n (h0 : 1 ≤ n) (h : n ≤ N) => bltF_set (L := L) h1 f (p := fun m => decide (n - 1 < m)) (q := fun m => decide (n - 1 < m)) (n := n) h0 (by omega) (by simp; omega) (fun _ _ => rfl))
  have HBA := Lib.hid (fun f => (bltF_all L h1 f (p := fun m => decide (0 < m)) (by intro n a b; simp; omega)).trans (bltF_all L h1 f (p := fun _ => true) (fun _ _ _ => rfl)).symm)
  rw [show 2 ^ L - 1 = N by omega] at HB0 HBL HPV
  have hN0 : 0 < N := by have : 2 ^ 1 ≤ 2 ^ L := Nat.pow_le_pow_right (by omega) h1; omega
  have hwD : IntKind.i64.wrap (D + 1) = D + 1 := IntWalk.i64_in _ (by omega)
  have hwN : IntKind.i64.wrap (N : Int) = (N : Int) := IntWalk.i64_in _ (by omega)
  have hg8 : decide ((lc : Int) > 8192) = false := by simp; omega
  have HLC := Lib.hid hlc
  clear hl h1 h2 hN hlenP hlc
  go_enter Try.func23, Try.ntmps23
  go_wp2_with fail
  refine (CK.out _ (((Below.refl _ _).alloc (Nat.le_refl _) _).alloc (by simp) _)).mono ?_
  rintro e wk ⟨rfl, hb1⟩
  have hz_wk := hb1.size
  try simp only [World.size_alloc, World.size_setCell] at hz_wk
  have c_t0 : wk.cell? ⟨w.heap.size, 0, none⟩ = some (.int .i64 seg) := (hb1.cell (p := ⟨w.heap.size, 0, none⟩) (by (first | (with_reducible assumption) | omega | (simp only [szW] <;> omega) | (simp <;> omega)))).trans (by (first | (with_reducible assumption) | ((try simp (disch := first | omega | (simp only [szW] <;> omega) | fail) only [ceW]) <;> first | (with_reducible assumption) | rfl)))
  have c_t1 : wk.cell? ⟨w.heap.size, 1, none⟩ = some (.slice wa lw wc) := (hb1.cell (p := ⟨w.heap.size, 1, none⟩) (by (first | (with_reducible assumption) | omega | (simp only [szW] <;> omega) | (simp <;> omega)))).trans (by (first | (with_reducible assumption) | ((try simp (disch := first | omega | (simp only [szW] <;> omega) | fail) only [ceW]) <;> first | (with_reducible assumption) | rfl)))
  have c_t2 : wk.cell? ⟨w.heap.size, 2, none⟩ = some (.slice ka lk kc) := (hb1.cell (p := ⟨w.heap.size, 2, none⟩) (by (first | (with_reducible assumption) | omega | (simp only [szW] <;> omega) | (simp <;> omega)))).trans (by (first | (with_reducible assumption) | ((try simp (disch := first | omega | (simp only [szW] <;> omega) | fail) only [ceW]) <;> first | (with_reducible assumption) | rfl)))
  have c_t3 : wk.cell? ⟨w.heap.size, 3, none⟩ = some (.slice va lv vc) := (hb1.cell (p := ⟨w.heap.size, 3, none⟩) (by (first | (with_reducible assumption) | omega | (simp only [szW] <;> omega) | (simp <;> omega)))).trans (by (first | (with_reducible assumption) | ((try simp (disch := first | omega | (simp only [szW] <;> omega) | fail) only [ceW]) <;> first | (with_reducible assumption) | rfl)))
  have c_t4 : wk.cell? ⟨w.heap.size, 4, none⟩ = some (.slice ca lc cc) := (hb1.cell (p := ⟨w.heap.size, 4, none⟩) (by (first | (with_reducible assumption) | omega | (simp only [szW] <;> omega) | (simp <;> omega)))).trans (by (first | (with_reducible assumption) | ((try simp (disch := first | omega | (simp only [szW] <;> omega) | fail) only [ceW]) <;> first | (with_reducible assumption) | rfl)))
  have c_t5 : wk.cell? ⟨w.heap.size, 5, none⟩ = some (.int .u64 laid) := (hb1.cell (p := ⟨w.heap.size, 5, none⟩) (by (first | (with_reducible assumption) | omega | (simp only [szW] <;> omega) | (simp <;> omega)))).trans (by (first | (with_reducible assumption) | ((try simp (disch := first | omega | (simp only [szW] <;> omega) | fail) only [ceW]) <;> first | (with_reducible assumption) | rfl)))
  have z_t : w.heap.size < wk.heap.size := by omega
  have c_r0 : wk.cell? ⟨w.heap.size + 1, 0, none⟩ = some (.int .i64 0) := (hb1.cell (p := ⟨w.heap.size + 1, 0, none⟩) (by (first | (with_reducible assumption) | omega | (simp only [szW] <;> omega) | (simp <;> omega)))).trans (by (first | (with_reducible assumption) | ((try simp (disch := first | omega | (simp only [szW] <;> omega) | fail) only [ceW]) <;> first | (with_reducible assumption) | rfl)))
  have f_r0 : wk.frozen? ⟨w.heap.size + 1, 0, none⟩ = false := (hb1.frozen (p := ⟨w.heap.size + 1, 0, none⟩) (by (first | (with_reducible assumption) | omega | (simp only [szW] <;> omega) | (simp <;> omega)))).trans (by (first | (with_reducible assumption) | ((try simp (disch := first | omega | (simp only [szW] <;> omega) | fail) only [ceW]) <;> first | (with_reducible assumption) | rfl)))
  have c_r1 : wk.cell? ⟨w.heap.size + 1, 1, none⟩ = some (.slice none 0 0) := (hb1.cell (p := ⟨w.heap.size + 1, 1, none⟩) (by (first | (with_reducible assumption) | omega | (simp only [szW] <;> omega) | (simp <;> omega)))).trans (by (first | (with_reducible assumption) | ((try simp (disch := first | omega | (simp only [szW] <;> omega) | fail) only [ceW]) <;> first | (with_reducible assumption) | rfl)))
  have f_r1 : wk.frozen? ⟨w.heap.size + 1, 1, none⟩ = false := (hb1.frozen (p := ⟨w.heap.size + 1, 1, none⟩) (by (first | (with_reducible assumption) | omega | (simp only [szW] <;> omega) | (simp <;> omega)))).trans (by (first | (with_reducible assumption) | ((try simp (disch := first | omega | (simp only [szW] <;> omega) | fail) only [ceW]) <;> first | (with_reducible assumption) | rfl)))
  have c_r2 : wk.cell? ⟨w.heap.size + 1, 2, none⟩ = some (.slice none 0 0) := (hb1.cell (p := ⟨w.heap.size + 1, 2, none⟩) (by (first | (with_reducible assumption) | omega | (simp only [szW] <;> omega) | (simp <;> omega)))).trans (by (first | (with_reducible assumption) | ((try simp (disch := first | omega | (simp only [szW] <;> omega) | fail) only [ceW]) <;> first | (with_reducible assumption) | rfl)))
  have f_r2 : wk.frozen? ⟨w.heap.size + 1, 2, none⟩ = false := (hb1.frozen (p := ⟨w.heap.size + 1, 2, none⟩) (by (first | (with_reducible assumption) | omega | (simp only [szW] <;> omega) | (simp <;> omega)))).trans (by (first | (with_reducible assumption) | ((try simp (disch := first | omega | (simp only [szW] <;> omega) | fail) only [ceW]) <;> first | (with_reducible assumption) | rfl)))
  have z_r : w.heap.size + 1 < wk.heap.size := by omega
  have HSK : Hid (Below w.heap.size w wk) := Lib.hid (by (repeat (first | with_reducible (first | exact Below.refl _ _ | assumption | exact Hid.out (by assumption) | refine Below.alloc ?_ ?_ _ | refine Below.setCell ?_ ?_ _ | refine below_drewN ?_ _ | refine Below.drew ?_ | refine below_via (by assumption) ?_ ?_) | (first | (with_reducible assumption) | omega | (simp only [szW] <;> omega) | (simp <;> omega)))))
  have hzk : w.heap.size + 2 ≤ wk.heap.size := by omega
  clear hb1
  go_wp2_with fail
  refine (DW.out _).mono ?_
  rintro e w' ⟨rfl, rfl⟩
  go_wp2_with fail
  refine (NDS.out _).mono ?_
  rintro e wz ⟨gn, rfl, hon, hbn⟩
  have HON := Lib.hid hon
  have HSN := Lib.hid hbn
  have hgn := hon.lt gn rfl
  have hzn := hbn.size
  clear hon hbn
  go_wp2
  refine wp_region_facts 12 (by kernel_rfl) (N := 111) rfl (by kernel_rfl) (by kernel_rfl) (by decide) (fun w' => Below wz.heap.size wz w') (Ext 25) (factAt [.is (.int .i64 D), .is (.int .i64 (D + 1)), .is (.slice (some ⟨gn, 0, none⟩) (N + 1) (N + 1)), .is (.int .i64 ((N : Int) + 1)), .is (.int .i64 N), .full wz.heap.size 2 (by decide) N ((List.replicate N (0 : Int)).map (Value.int .i64)), .is (.slice (some ⟨gn, 0, none⟩) (N + 1) (N + 1)), .is (.int .i64 ((N : Int) + 1)), .is (.int .i64 N), .full wz.heap.size 3 (by decide) N ((List.replicate N (0 : Int)).map (Value.int .i64)), .agg3 (.is (.int .i64 (D + 1))) (.full wz.heap.size 2 (by decide) N ((List.replicate N (0 : Int)).map (Value.int .i64))) (.full wz.heap.size 3 (by decide) N ((List.replicate N (0 : Int)).map (Value.int .i64))), .box wz.heap.size 3]) (factAt_stays _) (Below.refl _ _).drew ?steps ?fin
  case steps =>
    refine ⟨?o0, ?o1, ?o2, ?o3, ?o4, ?o5, ?o6, ?o7, ?o8, ?o9, ?o10, ?o11, trivial⟩
    case o0 =>
      intro u a w' ev hJ hd K hK
      have e5 : a.tmps.getD 5 undef = .int .i64 D := ev 5 (by decide)
      have HK := Lib.hid hK
      clear hK ev hd
      go_simp
      exact HK.out _ _ (fun h => by cases h) hJ rfl (Ext.refl _ _)
    case o1 =>
      intro u a w' ev hJ hd K hK
      have e32 : a.tmps.getD 32 undef = .int .i64 D := (ev 32 (by decide)).trans (hd 0 _ (by kernel_rfl) rfl)
      have HK := Lib.hid hK
      clear hK ev hd
      go_simp
      exact HK.out _ _ (fun h => by cases h) hJ rfl (Ext.refl _ _)
    case o2 =>
      intro u a w' ev hJ hd K hK
      have e7 : a.tmps.getD 7 undef = .slice (some ⟨gn, 0, none⟩) (N + 1) (N + 1) := ev 7 (by decide)
      have HK := Lib.hid hK
      clear hK ev hd
      go_simp
      exact HK.out _ _ (fun h => by cases h) hJ rfl (Ext.refl _ _)
    case o3 =>
      intro u a w' ev hJ hd K hK
      have e34 : a.tmps.getD 34 undef = .slice (some ⟨gn, 0, none⟩) (N + 1) (N + 1) := (ev 34 (by decide)).trans (hd 2 _ (by kernel_rfl) rfl)
      have HK := Lib.hid hK
      clear hK ev hd
      go_simp
      exact HK.out _ _ (fun h => by cases h) hJ rfl (Ext.refl _ _)
    case o4 =>
      intro u a w' ev hJ hd K hK
      have e35 : a.tmps.getD 35 undef = .int .i64 ((N : Int) + 1) := (ev 35 (by decide)).trans (hd 3 _ (by kernel_rfl) rfl)
      have HK := Lib.hid hK
      clear hK ev hd
      go_simp
      exact HK.out _ _ (fun h => by cases h) hJ rfl (Ext.refl _ _)
    case o5 =>
      intro u a w' ev hJ hd K hK
      have e36 : a.tmps.getD 36 undef = .int .i64 N := (ev 36 (by decide)).trans (hd 4 _ (by kernel_rfl) rfl)
      exact wp_make (.tmp 36) (.tmp 36) 22 2 _ 1 8 Try.underlying22 info_int64 (by decide) wz.heap.size N _ rfl (by omega) hJ.size rfl e36 e36 (fun g w'' k1 k2 k3 => hK _ _ (fun h => by cases h) (hJ.trans (k3.mono hJ.size)) ⟨g, rfl, by rw [made_ints] at k2; exact k2⟩ (Ext.below k3))
    case o6 =>
      intro u a w' ev hJ hd K hK
      have e7 : a.tmps.getD 7 undef = .slice (some ⟨gn, 0, none⟩) (N + 1) (N + 1) := ev 7 (by decide)
      have HK := Lib.hid hK
      clear hK ev hd
      go_simp
      exact HK.out _ _ (fun h => by cases h) hJ rfl (Ext.refl _ _)
    case o7 =>
      intro u a w' ev hJ hd K hK
      have e38 : a.tmps.getD 38 undef = .slice (some ⟨gn, 0, none⟩) (N + 1) (N + 1) := (ev 38 (by decide)).trans (hd 6 _ (by kernel_rfl) rfl)
      have HK := Lib.hid hK
      clear hK ev hd
      go_simp
      exact HK.out _ _ (fun h => by cases h) hJ rfl (Ext.refl _ _)
    case o8 =>
      intro u a w' ev hJ hd K hK
      have e39 : a.tmps.getD 39 undef = .int .i64 ((N : Int) + 1) := (ev 39 (by decide)).trans (hd 7 _ (by kernel_rfl) rfl)
      have HK := Lib.hid hK
      clear hK ev hd
      go_simp
      exact HK.out _ _ (fun h => by cases h) hJ rfl (Ext.refl _ _)
    case o9 =>
      intro u a w' ev hJ hd K hK
      have e40 : a.tmps.getD 40 undef = .int .i64 N := (ev 40 (by decide)).trans (hd 8 _ (by kernel_rfl) rfl)
      exact wp_make (.tmp 40) (.tmp 40) 23 3 _ 1 8 Try.underlying23 info_int (by decide) wz.heap.size N _ rfl (by omega) hJ.size rfl e40 e40 (fun g w'' k1 k2 k3 => hK _ _ (fun h => by cases h) (hJ.trans (k3.mono hJ.size)) ⟨g, rfl, by rw [made_ints] at k2; exact k2⟩ (Ext.below k3))
    case o10 =>
      intro u a w' ev hJ hd K hK
      have h1 : u 33 = .int .i64 (D + 1) := hd 1 _ (by kernel_rfl) rfl
      obtain ⟨g1, h2, h3⟩ : (Fact.full (T := 25) wz.heap.size 2 (by decide) N ((List.replicate N (0 : Int)).map (Value.int .i64))).holds (u 37) w' := hd 5 _ (by kernel_rfl) rfl
      obtain ⟨g2, h4, h5⟩ : (Fact.full (T := 25) wz.heap.size 3 (by decide) N ((List.replicate N (0 : Int)).map (Value.int .i64))).holds (u 41) w' := hd 9 _ (by kernel_rfl) rfl
      have e13 : a.tmps.getD 33 undef = .int .i64 (D + 1) := (ev 33 (by decide)).trans h1
      have e16 : a.tmps.getD 37 undef = .slice (some ⟨g1, 0, none⟩) N N := (ev 37 (by decide)).trans h2
      have e19 : a.tmps.getD 41 undef = .slice (some ⟨g2, 0, none⟩) N N := (ev 41 (by decide)).trans h4
      have f13 : a.tmps[33]?.getD undef = .int .i64 (D + 1) := by rw [← Array.getD_eq_getD_getElem?]; exact e13
      have f16 : a.tmps[37]?.getD undef = .slice (some ⟨g1, 0, none⟩) N N := by rw [← Array.getD_eq_getD_getElem?]; exact e16
      have f19 : a.tmps[41]?.getD undef = .slice (some ⟨g2, 0, none⟩) N N := by rw [← Array.getD_eq_getD_getElem?]; exact e19
      have HK := Lib.hid hK
      have H3 := Lib.hid h3
      have H5 := Lib.hid h5
      clear hK ev hd h1 h2 h3 h4 h5
      go_simp
      exact HK.out _ _ (fun h => by cases h) hJ ⟨_, _, _, rfl, rfl, ⟨_, rfl, H3.out⟩, ⟨_, rfl, H5.out⟩⟩ (Ext.refl _ _)
    case o11 =>
      intro u a w' ev hJ hd K hK
      have HK := Lib.hid hK
      have hzJ := hJ.size
      have HJ := Lib.hid hJ
      clear hK ev hd hJ
      go_simp
      exact HK.out _ _ (fun h => by cases h) (HJ.out.alloc hzJ _) ⟨_, _, rfl, hzJ, alloc_new _ _, rfl⟩ (Ext.below ((Below.refl _ _).alloc (Nat.le_refl _) _))
  case fin =>
    intro u w2 hJ hG
    obtain ⟨x, y, z, h20, rfl, ⟨g1, rfl, ho1⟩, ⟨g2, rfl, ho2⟩⟩ : (Fact.agg3 (T := 25) (.is (.int .i64 (D + 1))) (.full wz.heap.size 2 (by decide) N ((List.replicate N (0 : Int)).map (Value.int .i64))) (.full wz.heap.size 3 (by decide) N ((List.replicate N (0 : Int)).map (Value.int .i64)))).holds (u 42) w2 := hG 10 _ rfl
    obtain ⟨b, bcs, h4, hbz, hbh, hbs⟩ : (Fact.box (T := 25) wz.heap.size 3).holds (u 8) w2 := hG 11 _ rfl
    obtain ⟨p, q, r, b0, b1, b2, q0, q1, q2⟩ := box_three hbh hbs
    have hgb1 := block_apart hbh ho1 (by decide)
    have hgb2 := block_apart hbh ho2 (by decide)
    have hg12 : g1 ≠ g2 := by
      rcases owns_apart ho1 ho2 (by decide) with h | h
      · cases h
      · intro e; exact h (by rw [e])
    have hz2 := hJ.size
    have hlb2 : b < w2.heap.size := World.block_lt_of_cell? _ _ b0
    have hl1 := ho1.lt g1 rfl
    have hl2 := ho2.lt g2 rfl
    have HO1 := Lib.hid ho1
    have HO2 := Lib.hid ho2
    have HJ := Lib.hid hJ
    clear hG ho1 ho2 hJ hbh hbs
    simp only [mixFrame, mixL, dstsOf, List.take_succ_cons, List.take_zero, List.filterMap_cons, List.filterMap_nil, List.contains_cons, List.contains_nil, Nat.reduceBEq, Bool.or_false, Bool.false_or, Bool.or_true, Bool.true_or, if_true, if_false, Bool.false_eq_true, Nat.reduceAdd, Nat.zero_add, List.drop_succ_cons, List.drop_zero, h20, h4]
    go_wp2
    have hsw := three_set (w2 := w2) (b := b) (x := .int .i64 (D + 1)) (y := .slice (some ⟨g1, 0, none⟩) N N) (z := .slice (some ⟨g2, 0, none⟩) N N) b0 b1 b2
    have HJ3 : Hid (Below wz.heap.size wz (((w2.setCell ⟨b, 0, none⟩ (.int .i64 (D + 1))).setCell ⟨b, 1, none⟩ (.slice (some ⟨g1, 0, none⟩) N N)).setCell ⟨b, 2, none⟩ (.slice (some ⟨g2, 0, none⟩) N N))) := Lib.hid (((HJ.out.setCell (by dsimp only; omega) _).setCell (by dsimp only; omega) _).setCell (by dsimp only; omega) _)
    have HO13 := Lib.hid (owns_heap (W' := (((w2.setCell ⟨b, 0, none⟩ (.int .i64 (D + 1))).setCell ⟨b, 1, none⟩ (.slice (some ⟨g1, 0, none⟩) N N)).setCell ⟨b, 2, none⟩ (.slice (some ⟨g2, 0, none⟩) N N))) HO1.out fun k hk => by cases hk; rw [heap_setCell_ne _ _ _ hgb1, heap_setCell_ne _ _ _ hgb1, heap_setCell_ne _ _ _ hgb1])
    have HO23 := Lib.hid (owns_heap (W' := (((w2.setCell ⟨b, 0, none⟩ (.int .i64 (D + 1))).setCell ⟨b, 1, none⟩ (.slice (some ⟨g1, 0, none⟩) N N)).setCell ⟨b, 2, none⟩ (.slice (some ⟨g2, 0, none⟩) N N))) HO2.out fun k hk => by cases hk; rw [heap_setCell_ne _ _ _ hgb2, heap_setCell_ne _ _ _ hgb2, heap_setCell_ne _ _ _ hgb2])
    have hz3 : w2.heap.size = (((w2.setCell ⟨b, 0, none⟩ (.int .i64 (D + 1))).setCell ⟨b, 1, none⟩ (.slice (some ⟨g1, 0, none⟩) N N)).setCell ⟨b, 2, none⟩ (.slice (some ⟨g2, 0, none⟩) N N)).heap.size := by simp
    generalize (((w2.setCell ⟨b, 0, none⟩ (.int .i64 (D + 1))).setCell ⟨b, 1, none⟩ (.slice (some ⟨g1, 0, none⟩) N N)).setCell ⟨b, 2, none⟩ (.slice (some ⟨g2, 0, none⟩) N N)) = w3 at *
    obtain ⟨k0, k1, k2⟩ := hsw
    have HON3 := Lib.hid (owns_below HON.out HJ3.out)
    have HJK := Lib.hid (HSN.out.trans (HJ3.out.mono hzn))
    clear HO1 HO2 HJ b0 b1 b2 q0 q1 q2 HON HJ3
    go_loopg [9] N (fun n iv wr => n ≤ N ∧ iv = .int .i64 (n : Int) ∧ wr.cell? ⟨b, 0, none⟩ = some (.int .i64 (D + 1)) ∧ wr.cell? ⟨b, 1, none⟩ = some (.slice (some ⟨g1, 0, none⟩) N N) ∧ wr.cell? ⟨b, 2, none⟩ = some (.slice (some ⟨g2, 0, none⟩) N N) ∧
      Hid (wr.ownsRow wz.heap.size 2 1 (.slice (some ⟨g1, 0, none⟩) N N) N ((bltF L fm fun m => decide (n < m)).map (Value.int .i64))) ∧ Hid (wr.ownsRow wz.heap.size 3 1 (.slice (some ⟨g2, 0, none⟩) N N) N ((bltF L fc fun m => decide (n < m)).map (Value.int .i64))) ∧ Hid (Below wk.heap.size wk wr) ∧ Hid (wr.ownsRow wk.heap.size 95 3 (.slice (some ⟨gn, 0, none⟩) (N + 1) (N + 1)) (N + 1) (ndRow (dn fm n) (dn fc n) (pcF L) (N + 1))) ∧ w3.heap.size ≤ wr.heap.size)
    case atStart =>
      refine ⟨Nat.le_refl _, rfl, k0, k1, k2, Lib.hid ?_, Lib.hid ?_, HJK, Lib.hid ?_, Nat.le_refl _⟩
      · rw [HB0.out]; exact HO13.out
      · rw [HB0.out]; exact HO23.out
      · have e : ndRow (dn fm N) (dn fc N) (pcF L) (N + 1) = ndRow (fun _ => 0) (fun _ => 0) (pcF L) (N + 1) := by
          unfold ndRow
          rw [flat3_congr (a' := fun _ => 0) (b' := fun _ => 0) (c' := pcF L) (fun i hi => by unfold dn; rw [if_neg (by omega)]) (fun i hi => by unfold dn; rw [if_neg (by omega)]) (fun _ _ => rfl)]
        rw [e]
        exact HON3.out
    case round =>
      obtain ⟨n, hnk⟩ : ∃ n, n = gk := ⟨_, rfl⟩
      subst hnk
      obtain ⟨hnN, rfl, c0, c1, c2, HR1, HR2, HJr, HRN, hzr⟩ := hrel
      have HJrs := HJr.out.size
      by_cases hn0 : 1 ≤ n
      · have hgc : decide ((n : Int) > 0) = true := by simp; omega
        have hz_wr := HJr.out.size
        try simp only [World.size_alloc, World.size_setCell] at hz_wr
        have c_t0 : wr.cell? ⟨w.heap.size, 0, none⟩ = some (.int .i64 seg) := (HJr.out.cell (p := ⟨w.heap.size, 0, none⟩) (by (first | (with_reducible assumption) | omega | (simp only [szW] <;> omega) | (simp <;> omega)))).trans (by (first | (with_reducible assumption) | ((try simp (disch := first | omega | (simp only [szW] <;> omega) | fail) only [ceW]) <;> first | (with_reducible assumption) | rfl)))
        have c_t1 : wr.cell? ⟨w.heap.size, 1, none⟩ = some (.slice wa lw wc) := (HJr.out.cell (p := ⟨w.heap.size, 1, none⟩) (by (first | (with_reducible assumption) | omega | (simp only [szW] <;> omega) | (simp <;> omega)))).trans (by (first | (with_reducible assumption) | ((try simp (disch := first | omega | (simp only [szW] <;> omega) | fail) only [ceW]) <;> first | (with_reducible assumption) | rfl)))
        have c_t2 : wr.cell? ⟨w.heap.size, 2, none⟩ = some (.slice ka lk kc) := (HJr.out.cell (p := ⟨w.heap.size, 2, none⟩) (by (first | (with_reducible assumption) | omega | (simp only [szW] <;> omega) | (simp <;> omega)))).trans (by (first | (with_reducible assumption) | ((try simp (disch := first | omega | (simp only [szW] <;> omega) | fail) only [ceW]) <;> first | (with_reducible assumption) | rfl)))
        have c_t3 : wr.cell? ⟨w.heap.size, 3, none⟩ = some (.slice va lv vc) := (HJr.out.cell (p := ⟨w.heap.size, 3, none⟩) (by (first | (with_reducible assumption) | omega | (simp only [szW] <;> omega) | (simp <;> omega)))).trans (by (first | (with_reducible assumption) | ((try simp (disch := first | omega | (simp only [szW] <;> omega) | fail) only [ceW]) <;> first | (with_reducible assumption) | rfl)))
        have c_t4 : wr.cell? ⟨w.heap.size, 4, none⟩ = some (.slice ca lc cc) := (HJr.out.cell (p := ⟨w.heap.size, 4, none⟩) (by (first | (with_reducible assumption) | omega | (simp only [szW] <;> omega) | (simp <;> omega)))).trans (by (first | (with_reducible assumption) | ((try simp (disch := first | omega | (simp only [szW] <;> omega) | fail) only [ceW]) <;> first | (with_reducible assumption) | rfl)))
        have c_t5 : wr.cell? ⟨w.heap.size, 5, none⟩ = some (.int .u64 laid) := (HJr.out.cell (p := ⟨w.heap.size, 5, none⟩) (by (first | (with_reducible assumption) | omega | (simp only [szW] <;> omega) | (simp <;> omega)))).trans (by (first | (with_reducible assumption) | ((try simp (disch := first | omega | (simp only [szW] <;> omega) | fail) only [ceW]) <;> first | (with_reducible assumption) | rfl)))
        have z_t : w.heap.size < wr.heap.size := by omega
        have hlen : (flat3 (dn fm n) (dn fc n) (pcF L) (N + 1)).length = (N + 1) * 3 := flat3_length
        obtain ⟨d0, e0⟩ := own_cell HRN.out (j := n * 3) (by omega)
        obtain ⟨d1, e1⟩ := own_cell HRN.out (j := n * 3 + 1) (by omega)
        have hbr : b < wr.heap.size := World.block_lt_of_cell? _ _ c0
        have hgr := (HRN.out.lt gn rfl).2
        by_cases hge : lc ≤ n
        · have hgd : decide ((n : Int) - lc ≥ 0) = true := by simp; omega
          have LFn := LF.out
          go_wp2_with fail
          refine (LFn _ (by have := below_via HJr.out HSK.out (by omega); (repeat (first | with_reducible (first | exact Below.refl _ _ | assumption | exact Hid.out (by assumption) | refine Below.alloc ?_ ?_ _ | refine Below.setCell ?_ ?_ _ | refine below_drewN ?_ _ | refine Below.drew ?_ | refine below_via (by assumption) ?_ ?_) | (first | (with_reducible assumption) | omega | (simp only [szW] <;> omega) | (simp <;> omega))))) n hge hnN).mono ?_
          rintro e w5 ⟨rfl, hb5⟩
          have hz5 := hb5.size
          replace d0 := (hb5.cell (p := ⟨gn, n * 3, none⟩) hgr).trans d0
          replace d1 := (hb5.cell (p := ⟨gn, n * 3 + 1, none⟩) hgr).trans d1
          replace e0 := (hb5.frozen (p := ⟨gn, n * 3, none⟩) hgr).trans e0
          replace e1 := (hb5.frozen (p := ⟨gn, n * 3 + 1, none⟩) hgr).trans e1
          generalize (flat3 (dn fm n) (dn fc n) (pcF L) (N + 1)).getD (n * 3) 0 = y0 at d0
          generalize (flat3 (dn fm n) (dn fc n) (pcF L) (N + 1)).getD (n * 3 + 1) 0 = y1 at d1
          clear LFn
          go_wp2
          -- the node is told: w6
          have hnbI : (n : Int) < (N : Int) + 1 := by omega
          have hng1 : gn ≠ g1 := by omega
          have hng2 : gn ≠ g2 := by omega
          have hngb : b ≠ gn := by omega
          have HQ6 : Hid (∀ q, q ≠ gn → ((w5.setCell ⟨gn, n * 3, none⟩ (.int .i64 (fm n))).setCell ⟨gn, n * 3 + 1, none⟩ (.int .i64 (fc n))).heap[q]? = w5.heap[q]?) := Lib.hid fun q hq => by rw [heap_setCell_ne _ _ _ hq, heap_setCell_ne _ _ _ hq]
          have HRN6 : Hid (((w5.setCell ⟨gn, n * 3, none⟩ (.int .i64 (fm n))).setCell ⟨gn, n * 3 + 1, none⟩ (.int .i64 (fc n))).ownsRow wk.heap.size 95 3 (.slice (some ⟨gn, 0, none⟩) (N + 1) (N + 1)) (N + 1) (ndRow (dn fm (n - 1)) (dn fc (n - 1)) (pcF L) (N + 1))) := by
            have o1 := own_set (owns_below HRN.out hb5) (n * 3) (fm n)
            rw [flat3_set0 (by omega), putF_dn _ _ hn0] at o1
            have o2 := own_set o1 (n * 3 + 1) (fc n)
            rw [flat3_set1 (by omega), putF_dn _ _ hn0] at o2
            exact Lib.hid o2
          have HJ6 : Hid (Below wk.heap.size wk ((w5.setCell ⟨gn, n * 3, none⟩ (.int .i64 (fm n))).setCell ⟨gn, n * 3 + 1, none⟩ (.int .i64 (fc n)))) := Lib.hid (((HJr.out.trans (hb5.mono HJrs)).setCell (by dsimp only; omega) _).setCell (by dsimp only; omega) _)
          have hz6 : ((w5.setCell ⟨gn, n * 3, none⟩ (.int .i64 (fm n))).setCell ⟨gn, n * 3 + 1, none⟩ (.int .i64 (fc n))).heap.size = w5.heap.size := by simp
          generalize (w5.setCell ⟨gn, n * 3, none⟩ (.int .i64 (fm n))).setCell ⟨gn, n * 3 + 1, none⟩ (.int .i64 (fc n)) = w6 at *
          replace c0 := (World.cell?_of_block (a := ⟨b, 0, none⟩) (HQ6.out b hngb)).trans ((hb5.cell (p := ⟨b, 0, none⟩) hbr).trans c0)
          replace c1 := (World.cell?_of_block (a := ⟨b, 1, none⟩) (HQ6.out b hngb)).trans ((hb5.cell (p := ⟨b, 1, none⟩) hbr).trans c1)
          replace c2 := (World.cell?_of_block (a := ⟨b, 2, none⟩) (HQ6.out b hngb)).trans ((hb5.cell (p := ⟨b, 2, none⟩) hbr).trans c2)
          have HR16 := Lib.hid (owns_heap (owns_below HR1.out hb5) fun j hj => by cases hj; exact HQ6.out g1 hng1.symm)
          have HR26 := Lib.hid (owns_heap (owns_below HR2.out hb5) fun j hj => by cases hj; exact HQ6.out g2 hng2.symm)
          have hlen6 : (flat3 (dn fm (n - 1)) (dn fc (n - 1)) (pcF L) (N + 1)).length = (N + 1) * 3 := flat3_length
          have hpV := HPV.out n hn0 hnN
          have hpG := HPG.out n hn0 hnN
          have S1 := Lib.hid (HBS.out fm n hn0 hnN)
          have S1' := Lib.hid (HBS2.out fm n hn0 hnN)
          have S2 := Lib.hid (HBS.out fc n hn0 hnN)
          obtain ⟨p, hpp⟩ : ∃ p, vpos L n = p := ⟨_, rfl⟩
          rw [hpp] at hpV hpG S1 S1' S2
          obtain ⟨n0, -⟩ := own_cell HRN6.out (j := n * 3) (by omega)
          obtain ⟨n1, -⟩ := own_cell HRN6.out (j := n * 3 + 1) (by omega)
          obtain ⟨n2, -⟩ := own_cell HRN6.out (j := n * 3 + 2) (by omega)
          rw [flat3_0 (by omega), show dn fm (n - 1) n = fm n from if_pos (by omega)] at n0
          rw [flat3_1 (by omega), show dn fc (n - 1) n = fc n from if_pos (by omega)] at n1
          rw [flat3_2 (by omega), show pcF L n = (p : Int) by rw [pcF, if_neg (by omega), hpG]] at n2
          obtain ⟨OWo, hOo⟩ : ∃ P : World → Prop, P = fun W => W.ownsRow wz.heap.size 2 1 (.slice (some ⟨g1, 0, none⟩) N N) N ((bltF L fm fun m => decide (n < m)).map (Value.int .i64)) := ⟨_, rfl⟩
          obtain ⟨OWn, hOn⟩ : ∃ P : World → Prop, P = fun W => W.ownsRow wz.heap.size 2 1 (.slice (some ⟨g1, 0, none⟩) N N) N ((bltF L fm fun m => decide (n - 1 < m)).map (Value.int .i64)) := ⟨_, rfl⟩
          have JIN : Hid (JB g1 w6.drew OWo OWn w6.drew) := Lib.hid ⟨fun _ _ => rfl, rfl, ⟨rfl, rfl, rfl⟩, .inl (by rw [hOo]; exact owns_heap HR16.out fun _ _ => rfl)⟩
          have JST : Hid (∀ w', JB g1 w6.drew OWo OWn w' → (∃ y, w'.cell? ⟨g1, p, none⟩ = some (.int .i64 y)) ∧ w'.frozen? ⟨g1, p, none⟩ = false ∧ JB g1 w6.drew OWo OWn (w'.setCell ⟨g1, p, none⟩ (.int .i64 (fm n))) ∧ OWn (w'.setCell ⟨g1, p, none⟩ (.int .i64 (fm n)))) := Lib.hid (by
            rintro w' ⟨j1, j2, j4, j3⟩
            have key : (∃ y, w'.cell? ⟨g1, p, none⟩ = some (.int .i64 y)) ∧ w'.frozen? ⟨g1, p, none⟩ = false ∧ OWn (w'.setCell ⟨g1, p, none⟩ (.int .i64 (fm n))) := by
              rcases j3 with j3 | j3
              · rw [hOo] at j3
                obtain ⟨y0, y1⟩ := own_cell j3 (j := p) (by rw [HBL.out]; exact hpV)
                have y2 := own_set j3 p (fm n)
                rw [S1.out] at y2
                rw [hOn]
                exact ⟨⟨_, y0⟩, y1, y2⟩
              · rw [hOn] at j3
                obtain ⟨y0, y1⟩ := own_cell j3 (j := p) (by rw [HBL.out]; exact hpV)
                have y2 := own_set j3 p (fm n)
                rw [S1'.out] at y2
                rw [hOn]
                exact ⟨⟨_, y0⟩, y1, y2⟩
            exact ⟨key.1, key.2.1, ⟨fun q hq => (heap_setCell_ne _ _ _ hq).trans (j1 q hq), by rw [World.size_setCell]; exact j2, j4, .inr key.2.2⟩, key.2.2⟩)
          have HON' := Lib.hid hOn
          clear hOo hOn hpG hpp hlen6 HR1 HR2 HJr HRN HQ6 d0 d1 e0 e1 hb5 S1 S1' HR16
          refine wp_region_late 28 (by kernel_rfl) (N := 111) rfl (by kernel_rfl) (by kernel_rfl) (by decide) (fun w' => JB g1 w6.drew OWo OWn w') (fun W W' => OWn W → OWn W') (factRAt [.is (.pointer (some ⟨b, 1, none⟩)), .is (.slice (some ⟨g1, 0, none⟩) N N), .is (.slice (some ⟨gn, 0, none⟩) (N + 1) (N + 1)), .is (.int .i64 n), .is (.pointer (some ⟨gn, n * 3, none⟩)), .is (.pointer (some ⟨gn, n * 3 + 2, none⟩)), .is (.int .i64 p), .is (.pointer (some ⟨b, 2, none⟩)), .is (.slice (some ⟨g2, 0, none⟩) N N), .is (.slice (some ⟨gn, 0, none⟩) (N + 1) (N + 1)), .is (.int .i64 n), .is (.pointer (some ⟨gn, n * 3, none⟩)), .is (.pointer (some ⟨gn, n * 3 + 2, none⟩)), .is (.int .i64 p), .is (.slice (some ⟨gn, 0, none⟩) (N + 1) (N + 1)), .is (.int .i64 n), .is (.pointer (some ⟨gn, n * 3, none⟩)), .is (.pointer (some ⟨gn, n * 3, none⟩)), .is (.pointer (some ⟨gn, n * 3, none⟩)), .is (.int .i64 (fm n)), .is (.slice (some ⟨gn, 0, none⟩) (N + 1) (N + 1)), .is (.int .i64 n), .is (.pointer (some ⟨gn, n * 3, none⟩)), .is (.pointer (some ⟨gn, n * 3, none⟩)), .is (.pointer (some ⟨gn, n * 3 + 1, none⟩)), .is (.int .i64 (fc n)), .is (.pointer (some ⟨g1, p, none⟩)), .now OWn (fun _ _ h k => h k)]) (factRAt_stays _) JIN.out ?steps ?fin
          case steps =>
            refine ⟨?o0, ?o1, ?o2, ?o3, ?o4, ?o5, ?o6, ?o7, ?o8, ?o9, ?o10, ?o11, ?o12, ?o13, ?o14, ?o15, ?o16, ?o17, ?o18, ?o19, ?o20, ?o21, ?o22, ?o23, ?o24, ?o25, ?o26, ?o27, trivial⟩
            case o0 =>
              intro u a w' ev hJ hd K hK
              have e8 : a.tmps.getD 8 undef = .pointer (some ⟨b, 0, none⟩) := ev 8 (by decide)
              have HK := Lib.hid hK
              clear hK ev hd
              go_simp
              exact HK.out _ _ (fun h => by cases h) hJ rfl id
            case o1 =>
              intro u a w' ev hJ hd K hK
              have e82 : a.tmps.getD 82 undef = .pointer (some ⟨b, 1, none⟩) := (ev 82 (by decide)).trans (hd 0 _ (by kernel_rfl) rfl)
              have g0 := (World.cell?_of_block (a := ⟨b, 1, none⟩) (hJ.1 b (by omega))).trans c1
              have HK := Lib.hid hK
              clear hK ev hd
              go_simp
              exact HK.out _ _ (fun h => by cases h) hJ rfl id
            case o2 =>
              intro u a w' ev hJ hd K hK
              have e7 : a.tmps.getD 7 undef = .slice (some ⟨gn, 0, none⟩) (N + 1) (N + 1) := ev 7 (by decide)
              have HK := Lib.hid hK
              clear hK ev hd
              go_simp
              exact HK.out _ _ (fun h => by cases h) hJ rfl id
            case o3 =>
              intro u a w' ev hJ hd K hK
              have e9 : a.tmps.getD 9 undef = .int .i64 n := ev 9 (by decide)
              have HK := Lib.hid hK
              clear hK ev hd
              go_simp
              exact HK.out _ _ (fun h => by cases h) hJ rfl id
            case o4 =>
              intro u a w' ev hJ hd K hK
              have e84 : a.tmps.getD 84 undef = .slice (some ⟨gn, 0, none⟩) (N + 1) (N + 1) := (ev 84 (by decide)).trans (hd 2 _ (by kernel_rfl) rfl)
              have e85 : a.tmps.getD 85 undef = .int .i64 n := (ev 85 (by decide)).trans (hd 3 _ (by kernel_rfl) rfl)
              have HK := Lib.hid hK
              clear hK ev hd
              go_simp
              exact HK.out _ _ (fun h => by cases h) hJ rfl id
            case o5 =>
              intro u a w' ev hJ hd K hK
              have e86 : a.tmps.getD 86 undef = .pointer (some ⟨gn, n * 3, none⟩) := (ev 86 (by decide)).trans (hd 4 _ (by kernel_rfl) rfl)
              have HK := Lib.hid hK
              clear hK ev hd
              go_simp
              exact HK.out _ _ (fun h => by cases h) hJ rfl id
            case o6 =>
              intro u a w' ev hJ hd K hK
              have e87 : a.tmps.getD 87 undef = .pointer (some ⟨gn, n * 3 + 2, none⟩) := (ev 87 (by decide)).trans (hd 5 _ (by kernel_rfl) rfl)
              have g0 := (World.cell?_of_block (a := ⟨gn, n * 3 + 2, none⟩) (hJ.1 gn (by omega))).trans n2
              have HK := Lib.hid hK
              clear hK ev hd
              go_simp
              exact HK.out _ _ (fun h => by cases h) hJ rfl id
            case o7 =>
              intro u a w' ev hJ hd K hK
              have e8 : a.tmps.getD 8 undef = .pointer (some ⟨b, 0, none⟩) := ev 8 (by decide)
              have HK := Lib.hid hK
              clear hK ev hd
              go_simp
              exact HK.out _ _ (fun h => by cases h) hJ rfl id
            case o8 =>
              intro u a w' ev hJ hd K hK
              have e89 : a.tmps.getD 89 undef = .pointer (some ⟨b, 2, none⟩) := (ev 89 (by decide)).trans (hd 7 _ (by kernel_rfl) rfl)
              have g0 := (World.cell?_of_block (a := ⟨b, 2, none⟩) (hJ.1 b (by omega))).trans c2
              have HK := Lib.hid hK
              clear hK ev hd
              go_simp
              exact HK.out _ _ (fun h => by cases h) hJ rfl id
            case o9 =>
              intro u a w' ev hJ hd K hK
              have e7 : a.tmps.getD 7 undef = .slice (some ⟨gn, 0, none⟩) (N + 1) (N + 1) := ev 7 (by decide)
              have HK := Lib.hid hK
              clear hK ev hd
              go_simp
              exact HK.out _ _ (fun h => by cases h) hJ rfl id
            case o10 =>
              intro u a w' ev hJ hd K hK
              have e9 : a.tmps.getD 9 undef = .int .i64 n := ev 9 (by decide)
              have HK := Lib.hid hK
              clear hK ev hd
              go_simp
              exact HK.out _ _ (fun h => by cases h) hJ rfl id
            case o11 =>
              intro u a w' ev hJ hd K hK
              have e91 : a.tmps.getD 91 undef = .slice (some ⟨gn, 0, none⟩) (N + 1) (N + 1) := (ev 91 (by decide)).trans (hd 9 _ (by kernel_rfl) rfl)
              have e92 : a.tmps.getD 92 undef = .int .i64 n := (ev 92 (by decide)).trans (hd 10 _ (by kernel_rfl) rfl)
              have HK := Lib.hid hK
              clear hK ev hd
              go_simp
              exact HK.out _ _ (fun h => by cases h) hJ rfl id
            case o12 =>
              intro u a w' ev hJ hd K hK
              have e93 : a.tmps.getD 93 undef = .pointer (some ⟨gn, n * 3, none⟩) := (ev 93 (by decide)).trans (hd 11 _ (by kernel_rfl) rfl)
              have HK := Lib.hid hK
              clear hK ev hd
              go_simp
              exact HK.out _ _ (fun h => by cases h) hJ rfl id
            case o13 =>
              intro u a w' ev hJ hd K hK
              have e94 : a.tmps.getD 94 undef = .pointer (some ⟨gn, n * 3 + 2, none⟩) := (ev 94 (by decide)).trans (hd 12 _ (by kernel_rfl) rfl)
              have g0 := (World.cell?_of_block (a := ⟨gn, n * 3 + 2, none⟩) (hJ.1 gn (by omega))).trans n2
              have HK := Lib.hid hK
              clear hK ev hd
              go_simp
              exact HK.out _ _ (fun h => by cases h) hJ rfl id
            case o14 =>
              intro u a w' ev hJ hd K hK
              have e7 : a.tmps.getD 7 undef = .slice (some ⟨gn, 0, none⟩) (N + 1) (N + 1) := ev 7 (by decide)
              have HK := Lib.hid hK
              clear hK ev hd
              go_simp
              exact HK.out _ _ (fun h => by cases h) hJ rfl id
            case o15 =>
              intro u a w' ev hJ hd K hK
              have e9 : a.tmps.getD 9 undef = .int .i64 n := ev 9 (by decide)
              have HK := Lib.hid hK
              clear hK ev hd
              go_simp
              exact HK.out _ _ (fun h => by cases h) hJ rfl id
            case o16 =>
              intro u a w' ev hJ hd K hK
              have e96 : a.tmps.getD 96 undef = .slice (some ⟨gn, 0, none⟩) (N + 1) (N + 1) := (ev 96 (by decide)).trans (hd 14 _ (by kernel_rfl) rfl)
              have e97 : a.tmps.getD 97 undef = .int .i64 n := (ev 97 (by decide)).trans (hd 15 _ (by kernel_rfl) rfl)
              have HK := Lib.hid hK
              clear hK ev hd
              go_simp
              exact HK.out _ _ (fun h => by cases h) hJ rfl id
            case o17 =>
              intro u a w' ev hJ hd K hK
              have e98 : a.tmps.getD 98 undef = .pointer (some ⟨gn, n * 3, none⟩) := (ev 98 (by decide)).trans (hd 16 _ (by kernel_rfl) rfl)
              have HK := Lib.hid hK
              clear hK ev hd
              go_simp
              exact HK.out _ _ (fun h => by cases h) hJ rfl id
            case o18 =>
              intro u a w' ev hJ hd K hK
              have e99 : a.tmps.getD 99 undef = .pointer (some ⟨gn, n * 3, none⟩) := (ev 99 (by decide)).trans (hd 17 _ (by kernel_rfl) rfl)
              have HK := Lib.hid hK
              clear hK ev hd
              go_simp
              exact HK.out _ _ (fun h => by cases h) hJ rfl id
            case o19 =>
              intro u a w' ev hJ hd K hK
              have e100 : a.tmps.getD 100 undef = .pointer (some ⟨gn, n * 3, none⟩) := (ev 100 (by decide)).trans (hd 18 _ (by kernel_rfl) rfl)
              have g0 := (World.cell?_of_block (a := ⟨gn, n * 3, none⟩) (hJ.1 gn (by omega))).trans n0
              have HK := Lib.hid hK
              clear hK ev hd
              go_simp
              exact HK.out _ _ (fun h => by cases h) hJ rfl id
            case o20 =>
              intro u a w' ev hJ hd K hK
              have e7 : a.tmps.getD 7 undef = .slice (some ⟨gn, 0, none⟩) (N + 1) (N + 1) := ev 7 (by decide)
              have HK := Lib.hid hK
              clear hK ev hd
              go_simp
              exact HK.out _ _ (fun h => by cases h) hJ rfl id
            case o21 =>
              intro u a w' ev hJ hd K hK
              have e9 : a.tmps.getD 9 undef = .int .i64 n := ev 9 (by decide)
              have HK := Lib.hid hK
              clear hK ev hd
              go_simp
              exact HK.out _ _ (fun h => by cases h) hJ rfl id
            case o22 =>
              intro u a w' ev hJ hd K hK
              have e102 : a.tmps.getD 102 undef = .slice (some ⟨gn, 0, none⟩) (N + 1) (N + 1) := (ev 102 (by decide)).trans (hd 20 _ (by kernel_rfl) rfl)
              have e103 : a.tmps.getD 103 undef = .int .i64 n := (ev 103 (by decide)).trans (hd 21 _ (by kernel_rfl) rfl)
              have HK := Lib.hid hK
              clear hK ev hd
              go_simp
              exact HK.out _ _ (fun h => by cases h) hJ rfl id
            case o23 =>
              intro u a w' ev hJ hd K hK
              have e104 : a.tmps.getD 104 undef = .pointer (some ⟨gn, n * 3, none⟩) := (ev 104 (by decide)).trans (hd 22 _ (by kernel_rfl) rfl)
              have HK := Lib.hid hK
              clear hK ev hd
              go_simp
              exact HK.out _ _ (fun h => by cases h) hJ rfl id
            case o24 =>
              intro u a w' ev hJ hd K hK
              have e105 : a.tmps.getD 105 undef = .pointer (some ⟨gn, n * 3, none⟩) := (ev 105 (by decide)).trans (hd 23 _ (by kernel_rfl) rfl)
              have HK := Lib.hid hK
              clear hK ev hd
              go_simp
              exact HK.out _ _ (fun h => by cases h) hJ rfl id
            case o25 =>
              intro u a w' ev hJ hd K hK
              have e106 : a.tmps.getD 106 undef = .pointer (some ⟨gn, n * 3 + 1, none⟩) := (ev 106 (by decide)).trans (hd 24 _ (by kernel_rfl) rfl)
              have g0 := (World.cell?_of_block (a := ⟨gn, n * 3 + 1, none⟩) (hJ.1 gn (by omega))).trans n1
              have HK := Lib.hid hK
              clear hK ev hd
              go_simp
              exact HK.out _ _ (fun h => by cases h) hJ rfl id
            case o26 =>
              intro u a w' ev hJ hd K hK
              have e83 : a.tmps.getD 83 undef = .slice (some ⟨g1, 0, none⟩) N N := (ev 83 (by decide)).trans (hd 1 _ (by kernel_rfl) rfl)
              have e88 : a.tmps.getD 88 undef = .int .i64 p := (ev 88 (by decide)).trans (hd 6 _ (by kernel_rfl) rfl)
              have HK := Lib.hid hK
              clear hK ev hd
              go_simp
              exact HK.out _ _ (fun h => by cases h) hJ rfl id
            case o27 =>
              intro u a w' ev hJ hd K hK
              have e108 : a.tmps.getD 108 undef = .pointer (some ⟨g1, p, none⟩) := (ev 108 (by decide)).trans (hd 26 _ (by kernel_rfl) rfl)
              have e101 : a.tmps.getD 101 undef = .int .i64 (fm n) := (ev 101 (by decide)).trans (hd 19 _ (by kernel_rfl) rfl)
              obtain ⟨⟨y, hy⟩, hf, hj⟩ := JST.out w' hJ
              have HK := Lib.hid hK
              clear hK ev hd
              go_simp
              exact HK.out _ _ (fun h => rfl) hj.1 hj.2 (fun _ => hj.2)
          case fin =>
            intro u w7 hJ hG
            have h90 : u 90 = .slice (some ⟨g2, 0, none⟩) N N := hG 8 _ rfl
            have h95 : u 95 = .int .i64 p := hG 13 _ rfl
            have h107 : u 107 = .int .i64 (fc n) := hG 25 _ rfl
            have hnew : OWn w7 := hG 27 _ rfl
            rw [HON'.out] at hnew
            have HR17 := Lib.hid hnew
            have hz7 : w7.heap.size = w6.heap.size := hJ.2.1
            have HQ7 : Hid (∀ q, q ≠ g1 → w7.heap[q]? = w6.heap[q]?) := Lib.hid hJ.1
            have HR27 := Lib.hid (owns_heap HR26.out fun j hj => by cases hj; exact HQ7.out g2 hg12.symm)
            obtain ⟨y0, y1⟩ := own_cell HR27.out (j := p) (by rw [HBL.out]; exact hpV)
            generalize (bltF L fc fun m => decide (n < m)).getD p 0 = y at y0
            have HJ7 := Lib.hid (show Below wk.heap.size wk w7 from ⟨hJ.2.2.1.1.trans HJ6.out.os, hJ.2.2.1.2.1.trans HJ6.out.tape, hJ.2.2.1.2.2.trans HJ6.out.output, by rw [hz7]; exact HJ6.out.size, fun q hq => (HQ7.out q (by omega)).trans (HJ6.out.block q hq)⟩)
            have HRN7 := Lib.hid (owns_heap HRN6.out fun j hj => by cases hj; exact HQ7.out gn hng1)
            replace c0 := (World.cell?_of_block (a := ⟨b, 0, none⟩) (HQ7.out b hgb1.symm)).trans c0
            replace c1 := (World.cell?_of_block (a := ⟨b, 1, none⟩) (HQ7.out b hgb1.symm)).trans c1
            replace c2 := (World.cell?_of_block (a := ⟨b, 2, none⟩) (HQ7.out b hgb1.symm)).trans c2
            clear hG hJ hnew HR26 HJ6 HRN6 JIN JST n0 n1 n2 HQ7
            simp only [mixFrame, mixL, dstsOf, List.take_succ_cons, List.take_zero, List.filterMap_cons, List.filterMap_nil, List.contains_cons, List.contains_nil, Nat.reduceBEq, Bool.or_false, Bool.false_or, Bool.or_true, Bool.true_or, if_true, if_false, Bool.false_eq_true, Nat.reduceAdd, Nat.zero_add, List.drop_succ_cons, List.drop_zero, h90, h95, h107]
            go_wp2
            go_roundg (n - 1)
            case measure => omega
            case rel =>
              refine ⟨by omega, congrArg _ (by omega), ?_, ?_, ?_, ?_, ?_, ?_, ?_, ?_⟩
              · exact (World.cell?_setCell_other _ _ _ _ (by intro e; cases e; exact hgb2 rfl)).trans c0
              · exact (World.cell?_setCell_other _ _ _ _ (by intro e; cases e; exact hgb2 rfl)).trans c1
              · exact (World.cell?_setCell_other _ _ _ _ (by intro e; cases e; exact hgb2 rfl)).trans c2
              · exact Lib.hid (owns_heap HR17.out fun j hj => by cases hj; exact heap_setCell_ne _ _ _ hg12)
              · have := own_set HR27.out p (fc n)
                rw [S2.out] at this
                exact Lib.hid this
              · exact Lib.hid (HJ7.out.setCell (by dsimp only; omega) _)
              · exact Lib.hid (owns_heap HRN7.out fun j hj => by cases hj; exact heap_setCell_ne _ _ _ hng2)
              · simp; omega

        · have hgd : decide ((n : Int) - lc ≥ 0) = false := by simp; omega
          have hlt : n < lc := by omega
          have hlcb : lc ≤ 8192 := by have := HLC.out; omega
          obtain ⟨m1, hm1⟩ : ∃ m1, 2 * n = m1 := ⟨_, rfl⟩
          obtain ⟨m2, hm2⟩ : ∃ m2, m1 + 1 = m2 := ⟨_, rfl⟩
          have ABn := Lib.hid (AB.out n hn0 hlt)
          rw [hm1, hm2] at ABn
          have hN2 : m2 ≤ N := by have := HLC.out; omega
          have hw1 : IntKind.i64.wrap (m1 : Int) = (m1 : Int) := IntWalk.i64_in _ (by omega)
          have hw2 : IntKind.i64.wrap (m2 : Int) = (m2 : Int) := IntWalk.i64_in _ (by omega)
          have hv1 : 2 * (n : Int) = (m1 : Int) := by omega
          have hv2 : (m1 : Int) + 1 = (m2 : Int) := by omega
          obtain ⟨na0, -⟩ := own_cell HRN.out (j := m1 * 3) (by omega)
          obtain ⟨na1, -⟩ := own_cell HRN.out (j := m1 * 3 + 1) (by omega)
          obtain ⟨nb0, -⟩ := own_cell HRN.out (j := m2 * 3) (by omega)
          obtain ⟨nb1, -⟩ := own_cell HRN.out (j := m2 * 3 + 1) (by omega)
          rw [flat3_0 (by omega), show dn fm n m1 = fm m1 from if_pos (by omega)] at na0
          rw [flat3_1 (by omega), show dn fc n m1 = fc m1 from if_pos (by omega)] at na1
          rw [flat3_0 (by omega), show dn fm n m2 = fm m2 from if_pos (by omega)] at nb0
          rw [flat3_1 (by omega), show dn fc n m2 = fc m2 from if_pos (by omega)] at nb1
          have hb1I : (m1 : Int) < (N : Int) + 1 := by omega
          have hb2I : (m2 : Int) < (N : Int) + 1 := by omega
          have hnbI : (n : Int) < (N : Int) + 1 := by omega
          clear hm1 hm2 hlen
          go_wp2
          refine wp_region_late 16 (by kernel_rfl) (N := 111) rfl (by kernel_rfl) (by kernel_rfl) (by decide) (fun w' => Below wr.heap.size wr w') (Ext 25) (factAt [.is (.slice (some ⟨gn, 0, none⟩) (N + 1) (N + 1)), .is (.int .i64 n), .is (.slice (some ⟨gn, 0, none⟩) (N + 1) (N + 1)), .is (.int .i64 n), .is (.int .i64 m1), .is (.pointer (some ⟨gn, m1 * 3, none⟩)), .is (.pointer (some ⟨gn, m1 * 3, none⟩)), .is (tdV (fm m1) (fc m1)), .is (.slice (some ⟨gn, 0, none⟩) (N + 1) (N + 1)), .is (.int .i64 n), .is (.int .i64 m1), .is (.int .i64 m2), .is (.pointer (some ⟨gn, m2 * 3, none⟩)), .is (.pointer (some ⟨gn, m2 * 3, none⟩)), .is (tdV (fm m2) (fc m2)), .is (tdV (fm n) (fc n))]) (factAt_stays _) (Below.refl _ _).drew ?steps ?fin
          case steps =>
            refine ⟨?o0, ?o1, ?o2, ?o3, ?o4, ?o5, ?o6, ?o7, ?o8, ?o9, ?o10, ?o11, ?o12, ?o13, ?o14, ?o15, trivial⟩
            case o0 =>
              intro u a w' ev hJ hd K hK
              have e7 : a.tmps.getD 7 undef = .slice (some ⟨gn, 0, none⟩) (N + 1) (N + 1) := ev 7 (by decide)
              have HK := Lib.hid hK
              clear hK ev hd
              go_simp
              exact HK.out _ _ (fun h => by cases h) hJ rfl (Ext.refl _ _)
            case o1 =>
              intro u a w' ev hJ hd K hK
              have e9 : a.tmps.getD 9 undef = .int .i64 n := ev 9 (by decide)
              have HK := Lib.hid hK
              clear hK ev hd
              go_simp
              exact HK.out _ _ (fun h => by cases h) hJ rfl (Ext.refl _ _)
            case o2 =>
              intro u a w' ev hJ hd K hK
              have e7 : a.tmps.getD 7 undef = .slice (some ⟨gn, 0, none⟩) (N + 1) (N + 1) := ev 7 (by decide)
              have HK := Lib.hid hK
              clear hK ev hd
              go_simp
              exact HK.out _ _ (fun h => by cases h) hJ rfl (Ext.refl _ _)
            case o3 =>
              intro u a w' ev hJ hd K hK
              have e9 : a.tmps.getD 9 undef = .int .i64 n := ev 9 (by decide)
              have HK := Lib.hid hK
              clear hK ev hd
              go_simp
              exact HK.out _ _ (fun h => by cases h) hJ rfl (Ext.refl _ _)
            case o4 =>
              intro u a w' ev hJ hd K hK
              have e67 : a.tmps.getD 67 undef = .int .i64 n := (ev 67 (by decide)).trans (hd 3 _ (by kernel_rfl) rfl)
              have HK := Lib.hid hK
              clear hK ev hd
              go_simp
              exact HK.out _ _ (fun h => by cases h) hJ rfl (Ext.refl _ _)
            case o5 =>
              intro u a w' ev hJ hd K hK
              have e66 : a.tmps.getD 66 undef = .slice (some ⟨gn, 0, none⟩) (N + 1) (N + 1) := (ev 66 (by decide)).trans (hd 2 _ (by kernel_rfl) rfl)
              have e68 : a.tmps.getD 68 undef = .int .i64 m1 := (ev 68 (by decide)).trans (hd 4 _ (by kernel_rfl) rfl)
              have HK := Lib.hid hK
              clear hK ev hd
              go_simp
              exact HK.out _ _ (fun h => by cases h) hJ rfl (Ext.refl _ _)
            case o6 =>
              intro u a w' ev hJ hd K hK
              have e69 : a.tmps.getD 69 undef = .pointer (some ⟨gn, m1 * 3, none⟩) := (ev 69 (by decide)).trans (hd 5 _ (by kernel_rfl) rfl)
              have HK := Lib.hid hK
              clear hK ev hd
              go_simp
              exact HK.out _ _ (fun h => by cases h) hJ rfl (Ext.refl _ _)
            case o7 =>
              intro u a w' ev hJ hd K hK
              have e70 : a.tmps.getD 70 undef = .pointer (some ⟨gn, m1 * 3, none⟩) := (ev 70 (by decide)).trans (hd 6 _ (by kernel_rfl) rfl)
              have g0 := (hJ.cell (p := ⟨gn, m1 * 3, none⟩) (by dsimp only; omega)).trans na0
              have g1 := (hJ.cell (p := ⟨gn, m1 * 3 + 1, none⟩) (by dsimp only; omega)).trans na1
              have HK := Lib.hid hK
              clear hK ev hd
              go_simp
              exact HK.out _ _ (fun h => by cases h) hJ rfl (Ext.refl _ _)
            case o8 =>
              intro u a w' ev hJ hd K hK
              have e7 : a.tmps.getD 7 undef = .slice (some ⟨gn, 0, none⟩) (N + 1) (N + 1) := ev 7 (by decide)
              have HK := Lib.hid hK
              clear hK ev hd
              go_simp
              exact HK.out _ _ (fun h => by cases h) hJ rfl (Ext.refl _ _)
            case o9 =>
              intro u a w' ev hJ hd K hK
              have e9 : a.tmps.getD 9 undef = .int .i64 n := ev 9 (by decide)
              have HK := Lib.hid hK
              clear hK ev hd
              go_simp
              exact HK.out _ _ (fun h => by cases h) hJ rfl (Ext.refl _ _)
            case o10 =>
              intro u a w' ev hJ hd K hK
              have e73 : a.tmps.getD 73 undef = .int .i64 n := (ev 73 (by decide)).trans (hd 9 _ (by kernel_rfl) rfl)
              have HK := Lib.hid hK
              clear hK ev hd
              go_simp
              exact HK.out _ _ (fun h => by cases h) hJ rfl (Ext.refl _ _)
            case o11 =>
              intro u a w' ev hJ hd K hK
              have e74 : a.tmps.getD 74 undef = .int .i64 m1 := (ev 74 (by decide)).trans (hd 10 _ (by kernel_rfl) rfl)
              have HK := Lib.hid hK
              clear hK ev hd
              go_simp
              exact HK.out _ _ (fun h => by cases h) hJ rfl (Ext.refl _ _)
            case o12 =>
              intro u a w' ev hJ hd K hK
              have e72 : a.tmps.getD 72 undef = .slice (some ⟨gn, 0, none⟩) (N + 1) (N + 1) := (ev 72 (by decide)).trans (hd 8 _ (by kernel_rfl) rfl)
              have e75 : a.tmps.getD 75 undef = .int .i64 m2 := (ev 75 (by decide)).trans (hd 11 _ (by kernel_rfl) rfl)
              have HK := Lib.hid hK
              clear hK ev hd
              go_simp
              exact HK.out _ _ (fun h => by cases h) hJ rfl (Ext.refl _ _)
            case o13 =>
              intro u a w' ev hJ hd K hK
              have e76 : a.tmps.getD 76 undef = .pointer (some ⟨gn, m2 * 3, none⟩) := (ev 76 (by decide)).trans (hd 12 _ (by kernel_rfl) rfl)
              have HK := Lib.hid hK
              clear hK ev hd
              go_simp
              exact HK.out _ _ (fun h => by cases h) hJ rfl (Ext.refl _ _)
            case o14 =>
              intro u a w' ev hJ hd K hK
              have e77 : a.tmps.getD 77 undef = .pointer (some ⟨gn, m2 * 3, none⟩) := (ev 77 (by decide)).trans (hd 13 _ (by kernel_rfl) rfl)
              have g0 := (hJ.cell (p := ⟨gn, m2 * 3, none⟩) (by dsimp only; omega)).trans nb0
              have g1 := (hJ.cell (p := ⟨gn, m2 * 3 + 1, none⟩) (by dsimp only; omega)).trans nb1
              have HK := Lib.hid hK
              clear hK ev hd
              go_simp
              exact HK.out _ _ (fun h => by cases h) hJ rfl (Ext.refl _ _)
            case o15 =>
              intro u a w' ev hJ hd K hK
              have e71 : a.tmps.getD 71 undef = tdV (fm m1) (fc m1) := (ev 71 (by decide)).trans (hd 7 _ (by kernel_rfl) rfl)
              have e78 : a.tmps.getD 78 undef = tdV (fm m2) (fc m2) := (ev 78 (by decide)).trans (hd 14 _ (by kernel_rfl) rfl)
              have HK := Lib.hid hK
              have HC := Lib.hid (ABn.out w')
              have hzJ := hJ.size
              clear hK ev hd
              go_simp
              refine HC.out.mono ?_
              rintro e w'' ⟨rfl, hb⟩
              exact HK.out _ _ (fun h => by cases h) (hJ.trans (hb.mono hzJ)) rfl (Ext.below hb)
          case fin =>
          intro u w5 hJ hG
          have h79 : u 79 = tdV (fm n) (fc n) := hG 15 _ rfl
          have h64 : u 64 = .slice (some ⟨gn, 0, none⟩) (N + 1) (N + 1) := hG 0 _ rfl
          have h65 : u 65 = .int .i64 n := hG 1 _ rfl
          have hb5 : Below wr.heap.size wr w5 := hJ
          have hz5 := hb5.size
          replace d0 := (hb5.cell (p := ⟨gn, n * 3, none⟩) hgr).trans d0
          replace d1 := (hb5.cell (p := ⟨gn, n * 3 + 1, none⟩) hgr).trans d1
          replace e0 := (hb5.frozen (p := ⟨gn, n * 3, none⟩) hgr).trans e0
          replace e1 := (hb5.frozen (p := ⟨gn, n * 3 + 1, none⟩) hgr).trans e1
          generalize (flat3 (dn fm n) (dn fc n) (pcF L) (N + 1)).getD (n * 3) 0 = y0 at d0
          generalize (flat3 (dn fm n) (dn fc n) (pcF L) (N + 1)).getD (n * 3 + 1) 0 = y1 at d1
          clear hG hJ na0 na1 nb0 nb1 hw1 hw2 hv1 hv2 ABn
          simp only [mixFrame, mixL, dstsOf, List.take_succ_cons, List.take_zero, List.filterMap_cons, List.filterMap_nil, List.contains_cons, List.contains_nil, Nat.reduceBEq, Bool.or_false, Bool.false_or, Bool.or_true, Bool.true_or, if_true, if_false, Bool.false_eq_true, Nat.reduceAdd, Nat.zero_add, List.drop_succ_cons, List.drop_zero, h79, h64, h65]
          go_wp2
          -- the node is told: w6
          have hnbI : (n : Int) < (N : Int) + 1 := by omega
          have hng1 : gn ≠ g1 := by omega
          have hng2 : gn ≠ g2 := by omega
          have hngb : b ≠ gn := by omega
          have HQ6 : Hid (∀ q, q ≠ gn → ((w5.setCell ⟨gn, n * 3, none⟩ (.int .i64 (fm n))).setCell ⟨gn, n * 3 + 1, none⟩ (.int .i64 (fc n))).heap[q]? = w5.heap[q]?) := Lib.hid fun q hq => by rw [heap_setCell_ne _ _ _ hq, heap_setCell_ne _ _ _ hq]
          have HRN6 : Hid (((w5.setCell ⟨gn, n * 3, none⟩ (.int .i64 (fm n))).setCell ⟨gn, n * 3 + 1, none⟩ (.int .i64 (fc n))).ownsRow wk.heap.size 95 3 (.slice (some ⟨gn, 0, none⟩) (N + 1) (N + 1)) (N + 1) (ndRow (dn fm (n - 1)) (dn fc (n - 1)) (pcF L) (N + 1))) := by
            have o1 := own_set (owns_below HRN.out hb5) (n * 3) (fm n)
            rw [flat3_set0 (by omega), putF_dn _ _ hn0] at o1
            have o2 := own_set o1 (n * 3 + 1) (fc n)
            rw [flat3_set1 (by omega), putF_dn _ _ hn0] at o2
            exact Lib.hid o2
          have HJ6 : Hid (Below wk.heap.size wk ((w5.setCell ⟨gn, n * 3, none⟩ (.int .i64 (fm n))).setCell ⟨gn, n * 3 + 1, none⟩ (.int .i64 (fc n)))) := Lib.hid (((HJr.out.trans (hb5.mono HJrs)).setCell (by dsimp only; omega) _).setCell (by dsimp only; omega) _)
          have hz6 : ((w5.setCell ⟨gn, n * 3, none⟩ (.int .i64 (fm n))).setCell ⟨gn, n * 3 + 1, none⟩ (.int .i64 (fc n))).heap.size = w5.heap.size := by simp
          generalize (w5.setCell ⟨gn, n * 3, none⟩ (.int .i64 (fm n))).setCell ⟨gn, n * 3 + 1, none⟩ (.int .i64 (fc n)) = w6 at *
          replace c0 := (World.cell?_of_block (a := ⟨b, 0, none⟩) (HQ6.out b hngb)).trans ((hb5.cell (p := ⟨b, 0, none⟩) hbr).trans c0)
          replace c1 := (World.cell?_of_block (a := ⟨b, 1, none⟩) (HQ6.out b hngb)).trans ((hb5.cell (p := ⟨b, 1, none⟩) hbr).trans c1)
          replace c2 := (World.cell?_of_block (a := ⟨b, 2, none⟩) (HQ6.out b hngb)).trans ((hb5.cell (p := ⟨b, 2, none⟩) hbr).trans c2)
          have HR16 := Lib.hid (owns_heap (owns_below HR1.out hb5) fun j hj => by cases hj; exact HQ6.out g1 hng1.symm)
          have HR26 := Lib.hid (owns_heap (owns_below HR2.out hb5) fun j hj => by cases hj; exact HQ6.out g2 hng2.symm)
          have hlen6 : (flat3 (dn fm (n - 1)) (dn fc (n - 1)) (pcF L) (N + 1)).length = (N + 1) * 3 := flat3_length
          have hpV := HPV.out n hn0 hnN
          have hpG := HPG.out n hn0 hnN
          have S1 := Lib.hid (HBS.out fm n hn0 hnN)
          have S1' := Lib.hid (HBS2.out fm n hn0 hnN)
          have S2 := Lib.hid (HBS.out fc n hn0 hnN)
          obtain ⟨p, hpp⟩ : ∃ p, vpos L n = p := ⟨_, rfl⟩
          rw [hpp] at hpV hpG S1 S1' S2
          obtain ⟨n0, -⟩ := own_cell HRN6.out (j := n * 3) (by omega)
          obtain ⟨n1, -⟩ := own_cell HRN6.out (j := n * 3 + 1) (by omega)
          obtain ⟨n2, -⟩ := own_cell HRN6.out (j := n * 3 + 2) (by omega)
          rw [flat3_0 (by omega), show dn fm (n - 1) n = fm n from if_pos (by omega)] at n0
          rw [flat3_1 (by omega), show dn fc (n - 1) n = fc n from if_pos (by omega)] at n1
          rw [flat3_2 (by omega), show pcF L n = (p : Int) by rw [pcF, if_neg (by omega), hpG]] at n2
          obtain ⟨OWo, hOo⟩ : ∃ P : World → Prop, P = fun W => W.ownsRow wz.heap.size 2 1 (.slice (some ⟨g1, 0, none⟩) N N) N ((bltF L fm fun m => decide (n < m)).map (Value.int .i64)) := ⟨_, rfl⟩
          obtain ⟨OWn, hOn⟩ : ∃ P : World → Prop, P = fun W => W.ownsRow wz.heap.size 2 1 (.slice (some ⟨g1, 0, none⟩) N N) N ((bltF L fm fun m => decide (n - 1 < m)).map (Value.int .i64)) := ⟨_, rfl⟩
          have JIN : Hid (JB g1 w6.drew OWo OWn w6.drew) := Lib.hid ⟨fun _ _ => rfl, rfl, ⟨rfl, rfl, rfl⟩, .inl (by rw [hOo]; exact owns_heap HR16.out fun _ _ => rfl)⟩
          have JST : Hid (∀ w', JB g1 w6.drew OWo OWn w' → (∃ y, w'.cell? ⟨g1, p, none⟩ = some (.int .i64 y)) ∧ w'.frozen? ⟨g1, p, none⟩ = false ∧ JB g1 w6.drew OWo OWn (w'.setCell ⟨g1, p, none⟩ (.int .i64 (fm n))) ∧ OWn (w'.setCell ⟨g1, p, none⟩ (.int .i64 (fm n)))) := Lib.hid (by
            rintro w' ⟨j1, j2, j4, j3⟩
            have key : (∃ y, w'.cell? ⟨g1, p, none⟩ = some (.int .i64 y)) ∧ w'.frozen? ⟨g1, p, none⟩ = false ∧ OWn (w'.setCell ⟨g1, p, none⟩ (.int .i64 (fm n))) := by
              rcases j3 with j3 | j3
              · rw [hOo] at j3
                obtain ⟨y0, y1⟩ := own_cell j3 (j := p) (by rw [HBL.out]; exact hpV)
                have y2 := own_set j3 p (fm n)
                rw [S1.out] at y2
                rw [hOn]
                exact ⟨⟨_, y0⟩, y1, y2⟩
              · rw [hOn] at j3
                obtain ⟨y0, y1⟩ := own_cell j3 (j := p) (by rw [HBL.out]; exact hpV)
                have y2 := own_set j3 p (fm n)
                rw [S1'.out] at y2
                rw [hOn]
                exact ⟨⟨_, y0⟩, y1, y2⟩
            exact ⟨key.1, key.2.1, ⟨fun q hq => (heap_setCell_ne _ _ _ hq).trans (j1 q hq), by rw [World.size_setCell]; exact j2, j4, .inr key.2.2⟩, key.2.2⟩)
          have HON' := Lib.hid hOn
          clear hOo hOn hpG hpp hlen6 HR1 HR2 HJr HRN HQ6 d0 d1 e0 e1 hb5 S1 S1' HR16
          refine wp_region_late 28 (by kernel_rfl) (N := 111) rfl (by kernel_rfl) (by kernel_rfl) (by decide) (fun w' => JB g1 w6.drew OWo OWn w') (fun W W' => OWn W → OWn W') (factRAt [.is (.pointer (some ⟨b, 1, none⟩)), .is (.slice (some ⟨g1, 0, none⟩) N N), .is (.slice (some ⟨gn, 0, none⟩) (N + 1) (N + 1)), .is (.int .i64 n), .is (.pointer (some ⟨gn, n * 3, none⟩)), .is (.pointer (some ⟨gn, n * 3 + 2, none⟩)), .is (.int .i64 p), .is (.pointer (some ⟨b, 2, none⟩)), .is (.slice (some ⟨g2, 0, none⟩) N N), .is (.slice (some ⟨gn, 0, none⟩) (N + 1) (N + 1)), .is (.int .i64 n), .is (.pointer (some ⟨gn, n * 3, none⟩)), .is (.pointer (some ⟨gn, n * 3 + 2, none⟩)), .is (.int .i64 p), .is (.slice (some ⟨gn, 0, none⟩) (N + 1) (N + 1)), .is (.int .i64 n), .is (.pointer (some ⟨gn, n * 3, none⟩)), .is (.pointer (some ⟨gn, n * 3, none⟩)), .is (.pointer (some ⟨gn, n * 3, none⟩)), .is (.int .i64 (fm n)), .is (.slice (some ⟨gn, 0, none⟩) (N + 1) (N + 1)), .is (.int .i64 n), .is (.pointer (some ⟨gn, n * 3, none⟩)), .is (.pointer (some ⟨gn, n * 3, none⟩)), .is (.pointer (some ⟨gn, n * 3 + 1, none⟩)), .is (.int .i64 (fc n)), .is (.pointer (some ⟨g1, p, none⟩)), .now OWn (fun _ _ h k => h k)]) (factRAt_stays _) JIN.out ?steps ?fin
          case steps =>
            refine ⟨?o0, ?o1, ?o2, ?o3, ?o4, ?o5, ?o6, ?o7, ?o8, ?o9, ?o10, ?o11, ?o12, ?o13, ?o14, ?o15, ?o16, ?o17, ?o18, ?o19, ?o20, ?o21, ?o22, ?o23, ?o24, ?o25, ?o26, ?o27, trivial⟩
            case o0 =>
              intro u a w' ev hJ hd K hK
              have e8 : a.tmps.getD 8 undef = .pointer (some ⟨b, 0, none⟩) := ev 8 (by decide)
              have HK := Lib.hid hK
              clear hK ev hd
              go_simp
              exact HK.out _ _ (fun h => by cases h) hJ rfl id
            case o1 =>
              intro u a w' ev hJ hd K hK
              have e82 : a.tmps.getD 82 undef = .pointer (some ⟨b, 1, none⟩) := (ev 82 (by decide)).trans (hd 0 _ (by kernel_rfl) rfl)
              have g0 := (World.cell?_of_block (a := ⟨b, 1, none⟩) (hJ.1 b (by omega))).trans c1
              have HK := Lib.hid hK
              clear hK ev hd
              go_simp
              exact HK.out _ _ (fun h => by cases h) hJ rfl id
            case o2 =>
              intro u a w' ev hJ hd K hK
              have e7 : a.tmps.getD 7 undef = .slice (some ⟨gn, 0, none⟩) (N + 1) (N + 1) := ev 7 (by decide)
              have HK := Lib.hid hK
              clear hK ev hd
              go_simp
              exact HK.out _ _ (fun h => by cases h) hJ rfl id
            case o3 =>
              intro u a w' ev hJ hd K hK
              have e9 : a.tmps.getD 9 undef = .int .i64 n := ev 9 (by decide)
              have HK := Lib.hid hK
              clear hK ev hd
              go_simp
              exact HK.out _ _ (fun h => by cases h) hJ rfl id
            case o4 =>
              intro u a w' ev hJ hd K hK
              have e84 : a.tmps.getD 84 undef = .slice (some ⟨gn, 0, none⟩) (N + 1) (N + 1) := (ev 84 (by decide)).trans (hd 2 _ (by kernel_rfl) rfl)
              have e85 : a.tmps.getD 85 undef = .int .i64 n := (ev 85 (by decide)).trans (hd 3 _ (by kernel_rfl) rfl)
              have HK := Lib.hid hK
              clear hK ev hd
              go_simp
              exact HK.out _ _ (fun h => by cases h) hJ rfl id
            case o5 =>
              intro u a w' ev hJ hd K hK
              have e86 : a.tmps.getD 86 undef = .pointer (some ⟨gn, n * 3, none⟩) := (ev 86 (by decide)).trans (hd 4 _ (by kernel_rfl) rfl)
              have HK := Lib.hid hK
              clear hK ev hd
              go_simp
              exact HK.out _ _ (fun h => by cases h) hJ rfl id
            case o6 =>
              intro u a w' ev hJ hd K hK
              have e87 : a.tmps.getD 87 undef = .pointer (some ⟨gn, n * 3 + 2, none⟩) := (ev 87 (by decide)).trans (hd 5 _ (by kernel_rfl) rfl)
              have g0 := (World.cell?_of_block (a := ⟨gn, n * 3 + 2, none⟩) (hJ.1 gn (by omega))).trans n2
              have HK := Lib.hid hK
              clear hK ev hd
              go_simp
              exact HK.out _ _ (fun h => by cases h) hJ rfl id
            case o7 =>
              intro u a w' ev hJ hd K hK
              have e8 : a.tmps.getD 8 undef = .pointer (some ⟨b, 0, none⟩) := ev 8 (by decide)
              have HK := Lib.hid hK
              clear hK ev hd
              go_simp
              exact HK.out _ _ (fun h => by cases h) hJ rfl id
            case o8 =>
              intro u a w' ev hJ hd K hK
              have e89 : a.tmps.getD 89 undef = .pointer (some ⟨b, 2, none⟩) := (ev 89 (by decide)).trans (hd 7 _ (by kernel_rfl) rfl)
              have g0 := (World.cell?_of_block (a := ⟨b, 2, none⟩) (hJ.1 b (by omega))).trans c2
              have HK := Lib.hid hK
              clear hK ev hd
              go_simp
              exact HK.out _ _ (fun h => by cases h) hJ rfl id
            case o9 =>
              intro u a w' ev hJ hd K hK
              have e7 : a.tmps.getD 7 undef = .slice (some ⟨gn, 0, none⟩) (N + 1) (N + 1) := ev 7 (by decide)
              have HK := Lib.hid hK
              clear hK ev hd
              go_simp
              exact HK.out _ _ (fun h => by cases h) hJ rfl id
            case o10 =>
              intro u a w' ev hJ hd K hK
              have e9 : a.tmps.getD 9 undef = .int .i64 n := ev 9 (by decide)
              have HK := Lib.hid hK
              clear hK ev hd
              go_simp
              exact HK.out _ _ (fun h => by cases h) hJ rfl id
            case o11 =>
              intro u a w' ev hJ hd K hK
              have e91 : a.tmps.getD 91 undef = .slice (some ⟨gn, 0, none⟩) (N + 1) (N + 1) := (ev 91 (by decide)).trans (hd 9 _ (by kernel_rfl) rfl)
              have e92 : a.tmps.getD 92 undef = .int .i64 n := (ev 92 (by decide)).trans (hd 10 _ (by kernel_rfl) rfl)
              have HK := Lib.hid hK
              clear hK ev hd
              go_simp
              exact HK.out _ _ (fun h => by cases h) hJ rfl id
            case o12 =>
              intro u a w' ev hJ hd K hK
              have e93 : a.tmps.getD 93 undef = .pointer (some ⟨gn, n * 3, none⟩) := (ev 93 (by decide)).trans (hd 11 _ (by kernel_rfl) rfl)
              have HK := Lib.hid hK
              clear hK ev hd
              go_simp
              exact HK.out _ _ (fun h => by cases h) hJ rfl id
            case o13 =>
              intro u a w' ev hJ hd K hK
              have e94 : a.tmps.getD 94 undef = .pointer (some ⟨gn, n * 3 + 2, none⟩) := (ev 94 (by decide)).trans (hd 12 _ (by kernel_rfl) rfl)
              have g0 := (World.cell?_of_block (a := ⟨gn, n * 3 + 2, none⟩) (hJ.1 gn (by omega))).trans n2
              have HK := Lib.hid hK
              clear hK ev hd
              go_simp
              exact HK.out _ _ (fun h => by cases h) hJ rfl id
            case o14 =>
              intro u a w' ev hJ hd K hK
              have e7 : a.tmps.getD 7 undef = .slice (some ⟨gn, 0, none⟩) (N + 1) (N + 1) := ev 7 (by decide)
              have HK := Lib.hid hK
              clear hK ev hd
              go_simp
              exact HK.out _ _ (fun h => by cases h) hJ rfl id
            case o15 =>
              intro u a w' ev hJ hd K hK
              have e9 : a.tmps.getD 9 undef = .int .i64 n := ev 9 (by decide)
              have HK := Lib.hid hK
              clear hK ev hd
              go_simp
              exact HK.out _ _ (fun h => by cases h) hJ rfl id
            case o16 =>
              intro u a w' ev hJ hd K hK
              have e96 : a.tmps.getD 96 undef = .slice (some ⟨gn, 0, none⟩) (N + 1) (N + 1) := (ev 96 (by decide)).trans (hd 14 _ (by kernel_rfl) rfl)
              have e97 : a.tmps.getD 97 undef = .int .i64 n := (ev 97 (by decide)).trans (hd 15 _ (by kernel_rfl) rfl)
              have HK := Lib.hid hK
              clear hK ev hd
              go_simp
              exact HK.out _ _ (fun h => by cases h) hJ rfl id
            case o17 =>
              intro u a w' ev hJ hd K hK
              have e98 : a.tmps.getD 98 undef = .pointer (some ⟨gn, n * 3, none⟩) := (ev 98 (by decide)).trans (hd 16 _ (by kernel_rfl) rfl)
              have HK := Lib.hid hK
              clear hK ev hd
              go_simp
              exact HK.out _ _ (fun h => by cases h) hJ rfl id
            case o18 =>
              intro u a w' ev hJ hd K hK
              have e99 : a.tmps.getD 99 undef = .pointer (some ⟨gn, n * 3, none⟩) := (ev 99 (by decide)).trans (hd 17 _ (by kernel_rfl) rfl)
              have HK := Lib.hid hK
              clear hK ev hd
              go_simp
              exact HK.out _ _ (fun h => by cases h) hJ rfl id
            case o19 =>
              intro u a w' ev hJ hd K hK
              have e100 : a.tmps.getD 100 undef = .pointer (some ⟨gn, n * 3, none⟩) := (ev 100 (by decide)).trans (hd 18 _ (by kernel_rfl) rfl)
              have g0 := (World.cell?_of_block (a := ⟨gn, n * 3, none⟩) (hJ.1 gn (by omega))).trans n0
              have HK := Lib.hid hK
              clear hK ev hd
              go_simp
              exact HK.out _ _ (fun h => by cases h) hJ rfl id
            case o20 =>
              intro u a w' ev hJ hd K hK
              have e7 : a.tmps.getD 7 undef = .slice (some ⟨gn, 0, none⟩) (N + 1) (N + 1) := ev 7 (by decide)
              have HK := Lib.hid hK
              clear hK ev hd
              go_simp
              exact HK.out _ _ (fun h => by cases h) hJ rfl id
            case o21 =>
              intro u a w' ev hJ hd K hK
              have e9 : a.tmps.getD 9 undef = .int .i64 n := ev 9 (by decide)
              have HK := Lib.hid hK
              clear hK ev hd
              go_simp
              exact HK.out _ _ (fun h => by cases h) hJ rfl id
            case o22 =>
              intro u a w' ev hJ hd K hK
              have e102 : a.tmps.getD 102 undef = .slice (some ⟨gn, 0, none⟩) (N + 1) (N + 1) := (ev 102 (by decide)).trans (hd 20 _ (by kernel_rfl) rfl)
              have e103 : a.tmps.getD 103 undef = .int .i64 n := (ev 103 (by decide)).trans (hd 21 _ (by kernel_rfl) rfl)
              have HK := Lib.hid hK
              clear hK ev hd
              go_simp
              exact HK.out _ _ (fun h => by cases h) hJ rfl id
            case o23 =>
              intro u a w' ev hJ hd K hK
              have e104 : a.tmps.getD 104 undef = .pointer (some ⟨gn, n * 3, none⟩) := (ev 104 (by decide)).trans (hd 22 _ (by kernel_rfl) rfl)
              have HK := Lib.hid hK
              clear hK ev hd
              go_simp
              exact HK.out _ _ (fun h => by cases h) hJ rfl id
            case o24 =>
              intro u a w' ev hJ hd K hK
              have e105 : a.tmps.getD 105 undef = .pointer (some ⟨gn, n * 3, none⟩) := (ev 105 (by decide)).trans (hd 23 _ (by kernel_rfl) rfl)
              have HK := Lib.hid hK
              clear hK ev hd
              go_simp
              exact HK.out _ _ (fun h => by cases h) hJ rfl id
            case o25 =>
              intro u a w' ev hJ hd K hK
              have e106 : a.tmps.getD 106 undef = .pointer (some ⟨gn, n * 3 + 1, none⟩) := (ev 106 (by decide)).trans (hd 24 _ (by kernel_rfl) rfl)
              have g0 := (World.cell?_of_block (a := ⟨gn, n * 3 + 1, none⟩) (hJ.1 gn (by omega))).trans n1
              have HK := Lib.hid hK
              clear hK ev hd
              go_simp
              exact HK.out _ _ (fun h => by cases h) hJ rfl id
            case o26 =>
              intro u a w' ev hJ hd K hK
              have e83 : a.tmps.getD 83 undef = .slice (some ⟨g1, 0, none⟩) N N := (ev 83 (by decide)).trans (hd 1 _ (by kernel_rfl) rfl)
              have e88 : a.tmps.getD 88 undef = .int .i64 p := (ev 88 (by decide)).trans (hd 6 _ (by kernel_rfl) rfl)
              have HK := Lib.hid hK
              clear hK ev hd
              go_simp
              exact HK.out _ _ (fun h => by cases h) hJ rfl id
            case o27 =>
              intro u a w' ev hJ hd K hK
              have e108 : a.tmps.getD 108 undef = .pointer (some ⟨g1, p, none⟩) := (ev 108 (by decide)).trans (hd 26 _ (by kernel_rfl) rfl)
              have e101 : a.tmps.getD 101 undef = .int .i64 (fm n) := (ev 101 (by decide)).trans (hd 19 _ (by kernel_rfl) rfl)
              obtain ⟨⟨y, hy⟩, hf, hj⟩ := JST.out w' hJ
              have HK := Lib.hid hK
              clear hK ev hd
              go_simp
              exact HK.out _ _ (fun h => rfl) hj.1 hj.2 (fun _ => hj.2)
          case fin =>
            intro u w7 hJ hG
            have h90 : u 90 = .slice (some ⟨g2, 0, none⟩) N N := hG 8 _ rfl
            have h95 : u 95 = .int .i64 p := hG 13 _ rfl
            have h107 : u 107 = .int .i64 (fc n) := hG 25 _ rfl
            have hnew : OWn w7 := hG 27 _ rfl
            rw [HON'.out] at hnew
            have HR17 := Lib.hid hnew
            have hz7 : w7.heap.size = w6.heap.size := hJ.2.1
            have HQ7 : Hid (∀ q, q ≠ g1 → w7.heap[q]? = w6.heap[q]?) := Lib.hid hJ.1
            have HR27 := Lib.hid (owns_heap HR26.out fun j hj => by cases hj; exact HQ7.out g2 hg12.symm)
            obtain ⟨y0, y1⟩ := own_cell HR27.out (j := p) (by rw [HBL.out]; exact hpV)
            generalize (bltF L fc fun m => decide (n < m)).getD p 0 = y at y0
            have HJ7 := Lib.hid (show Below wk.heap.size wk w7 from ⟨hJ.2.2.1.1.trans HJ6.out.os, hJ.2.2.1.2.1.trans HJ6.out.tape, hJ.2.2.1.2.2.trans HJ6.out.output, by rw [hz7]; exact HJ6.out.size, fun q hq => (HQ7.out q (by omega)).trans (HJ6.out.block q hq)⟩)
            have HRN7 := Lib.hid (owns_heap HRN6.out fun j hj => by cases hj; exact HQ7.out gn hng1)
            replace c0 := (World.cell?_of_block (a := ⟨b, 0, none⟩) (HQ7.out b hgb1.symm)).trans c0
            replace c1 := (World.cell?_of_block (a := ⟨b, 1, none⟩) (HQ7.out b hgb1.symm)).trans c1
            replace c2 := (World.cell?_of_block (a := ⟨b, 2, none⟩) (HQ7.out b hgb1.symm)).trans c2
            clear hG hJ hnew HR26 HJ6 HRN6 JIN JST n0 n1 n2 HQ7
            simp only [mixFrame, mixL, dstsOf, List.take_succ_cons, List.take_zero, List.filterMap_cons, List.filterMap_nil, List.contains_cons, List.contains_nil, Nat.reduceBEq, Bool.or_false, Bool.false_or, Bool.or_true, Bool.true_or, if_true, if_false, Bool.false_eq_true, Nat.reduceAdd, Nat.zero_add, List.drop_succ_cons, List.drop_zero, h90, h95, h107]
            go_wp2
            go_roundg (n - 1)
            case measure => omega
            case rel =>
              refine ⟨by omega, congrArg _ (by omega), ?_, ?_, ?_, ?_, ?_, ?_, ?_, ?_⟩
              · exact (World.cell?_setCell_other _ _ _ _ (by intro e; cases e; exact hgb2 rfl)).trans c0
              · exact (World.cell?_setCell_other _ _ _ _ (by intro e; cases e; exact hgb2 rfl)).trans c1
              · exact (World.cell?_setCell_other _ _ _ _ (by intro e; cases e; exact hgb2 rfl)).trans c2
              · exact Lib.hid (owns_heap HR17.out fun j hj => by cases hj; exact heap_setCell_ne _ _ _ hg12)
              · have := own_set HR27.out p (fc n)
                rw [S2.out] at this
                exact Lib.hid this
              · exact Lib.hid (HJ7.out.setCell (by dsimp only; omega) _)
              · exact Lib.hid (owns_heap HRN7.out fun j hj => by cases hj; exact heap_setCell_ne _ _ _ hng2)
              · simp; omega

      · obtain rfl : n = 0 := by omega
        have hgc : decide (((0 : Nat) : Int) > 0) = false := by simp
        have q0 := (HJr.out.cell (p := ⟨w.heap.size + 1, 0, none⟩) (by dsimp only; omega)).trans c_r0
        have q1 := (HJr.out.cell (p := ⟨w.heap.size + 1, 1, none⟩) (by dsimp only; omega)).trans c_r1
        have q2 := (HJr.out.cell (p := ⟨w.heap.size + 1, 2, none⟩) (by dsimp only; omega)).trans c_r2
        have p0 := (HJr.out.frozen (p := ⟨w.heap.size + 1, 0, none⟩) (by dsimp only; omega)).trans f_r0
        have p1 := (HJr.out.frozen (p := ⟨w.heap.size + 1, 1, none⟩) (by dsimp only; omega)).trans f_r1
        have p2 := (HJr.out.frozen (p := ⟨w.heap.size + 1, 2, none⟩) (by dsimp only; omega)).trans f_r2
        go_wp2
        have hsw := three_set (w2 := wr) (b := w.heap.size + 1) (x := .int .i64 (D + 1)) (y := .slice (some ⟨g1, 0, none⟩) N N) (z := .slice (some ⟨g2, 0, none⟩) N N) q0 q1 q2
        refine bodyPost_ret (results_ct rfl rfl (run_loadVar_many _ Try.underlying25 rfl (by kernel_rfl) (three_at hsw.1 hsw.2.1 hsw.2.2))) rfl ⟨_, _, rfl, ?_, ?_, ?_⟩
        · rw [HBL.out]
          have := HR1.out
          rw [HBA.out] at this
          exact owns_base (owns_heap this fun j hj => by cases hj; rw [heap_setCell_ne _ _ _ (by dsimp only; omega), heap_setCell_ne _ _ _ (by dsimp only; omega), heap_setCell_ne _ _ _ (by dsimp only; omega)]) (by omega)
        · rw [HBL.out]
          have := HR2.out
          rw [HBA.out] at this
          exact owns_base (owns_heap this fun j hj => by cases hj; rw [heap_setCell_ne _ _ _ (by dsimp only; omega), heap_setCell_ne _ _ _ (by dsimp only; omega), heap_setCell_ne _ _ _ (by dsimp only; omega)]) (by omega)
        · exact (((below_via HJr.out HSK.out (by omega)).setCell (by dsimp only; omega) _).setCell (by dsimp only; omega) _).setCell (by dsimp only; omega) _
end

section
open Go.RowKit Go.Shelf
attribute [local go_sem] Oper.semAt_some

set_option maxRecDepth 100000 in
set_option maxHeartbeats 1000000 in
theorem BuildIx_no (seg : Int) (wa ka va ca : Option Addr) (wc kc vc cc lw lk lv lc : Nat) (laid : Int) (w : World) (x : Int) (hx : x ≠ 0) (CK : Hid (∀ W, Below w.heap.size w W → Calls Try.prog 50 #[.agg #[.int .i64 seg, .slice wa lw wc, .slice ka lk kc, .slice va lv vc, .slice ca lc cc, .int .u64 laid]] W (AnsB W (.int .i64 x)))) :
    Calls Try.prog 23 #[.agg #[.int .i64 seg, .slice wa lw wc, .slice ka lk kc, .slice va lv vc, .slice ca lc cc, .int .u64 laid]] w (FreshIx2 w 0 [] [] (.int .i64 x)) := by
  have g1 : (x != 0) = true := by simpa using hx
  clear hx
  go_enter Try.func23, Try.ntmps23
  go_wp2_with fail
  refine (CK.out _ (((Below.refl _ _).alloc (Nat.le_refl _) _).alloc (by simp) _)).mono ?_
  rintro e w1 ⟨rfl, hb1⟩
  have hz_w1 := hb1.size
  try simp only [World.size_alloc, World.size_setCell] at hz_w1
  have all_c : w1.cell? ⟨w.heap.size, 0, none⟩ = some (.int .i64 seg) ∧ w1.cell? ⟨w.heap.size, 1, none⟩ = some (.slice wa lw wc) ∧ w1.cell? ⟨w.heap.size, 2, none⟩ = some (.slice ka lk kc) ∧ w1.cell? ⟨w.heap.size, 3, none⟩ = some (.slice va lv vc) ∧ w1.cell? ⟨w.heap.size, 4, none⟩ = some (.slice ca lc cc) ∧ w1.cell? ⟨w.heap.size, 5, none⟩ = some (.int .u64 laid) ∧ w1.cell? ⟨w.heap.size + 1, 0, none⟩ = some (.int .i64 0) ∧ w1.cell? ⟨w.heap.size + 1, 1, none⟩ = some (.slice none 0 0) ∧ w1.cell? ⟨w.heap.size + 1, 2, none⟩ = some (.slice none 0 0) := by refine ⟨?_, ?_, ?_, ?_, ?_, ?_, ?_, ?_, ?_⟩ <;> (refine (hb1.cell ?_).trans ?_ <;> first | (first | (with_reducible assumption) | omega | (simp only [szW] <;> omega) | (simp <;> omega)) | (first | (with_reducible assumption) | ((try simp (disch := first | omega | (simp only [szW] <;> omega) | fail) only [ceW]) <;> first | (with_reducible assumption) | rfl)))
  have all_f : w1.frozen? ⟨w.heap.size + 1, 0, none⟩ = false ∧ w1.frozen? ⟨w.heap.size + 1, 1, none⟩ = false ∧ w1.frozen? ⟨w.heap.size + 1, 2, none⟩ = false := by refine ⟨?_, ?_, ?_⟩ <;> (refine (hb1.frozen ?_).trans ?_ <;> first | (first | (with_reducible assumption) | omega | (simp only [szW] <;> omega) | (simp <;> omega)) | (first | (with_reducible assumption) | ((try simp (disch := first | omega | (simp only [szW] <;> omega) | fail) only [ceW]) <;> first | (with_reducible assumption) | rfl)))
  have all_z : w.heap.size < w1.heap.size ∧ w.heap.size + 1 < w1.heap.size := by refine ⟨?_, ?_⟩ <;> (omega)
  obtain ⟨c_t0, c_t1, c_t2, c_t3, c_t4, c_t5, c_r0, c_r1, c_r2⟩ := all_c
  try clear all_c
  obtain ⟨f_r0, f_r1, f_r2⟩ := all_f
  try clear all_f
  obtain ⟨z_t, z_r⟩ := all_z
  try clear all_z
  have hB1 : Below w.heap.size w w1 := by (repeat (first | with_reducible (first | exact Below.refl _ _ | assumption | exact Hid.out (by assumption) | refine Below.alloc ?_ ?_ _ | refine Below.setCell ?_ ?_ _ | refine below_drewN ?_ _ | refine Below.drew ?_ | refine below_via (by assumption) ?_ ?_) | (first | (with_reducible assumption) | omega | (simp only [szW] <;> omega) | (simp <;> omega))))
  go_wp2
  have hsw := three_set (w2 := w1) (b := w.heap.size + 1) (x := .int .i64 0) (y := .slice none 0 0) (z := .slice none 0 0) c_r0 c_r1 c_r2
  refine bodyPost_ret (results_ct rfl rfl (run_loadVar_many _ Try.underlying25 rfl (by kernel_rfl) (three_at hsw.1 hsw.2.1 hsw.2.2))) rfl ⟨_, _, rfl, World.ownsRow_nil _ _ _ _, World.ownsRow_nil _ _ _ _, ?_⟩
  exact ((hB1.setCell (by dsimp only; omega) _).setCell (by dsimp only; omega) _).setCell (by dsimp only; omega) _
set_option maxRecDepth 100000 in
set_option maxHeartbeats 1000000 in
theorem BuildIx_big (seg : Int) (wa ka va ca : Option Addr) (wc kc vc cc lw lk lv lc : Nat) (laid : Int) (w : World) (h8 : 8192 < lc) (CK : Hid (∀ W, Below w.heap.size w W → Calls Try.prog 50 #[.agg #[.int .i64 seg, .slice wa lw wc, .slice ka lk kc, .slice va lv vc, .slice ca lc cc, .int .u64 laid]] W (AnsB W (.int .i64 0)))) :
    Calls Try.prog 23 #[.agg #[.int .i64 seg, .slice wa lw wc, .slice ka lk kc, .slice va lv vc, .slice ca lc cc, .int .u64 laid]] w (FreshIx2 w 0 [] [] (.int .i64 4)) := by
  have g1 : decide ((lc : Int) > 8192) = true := by simp; omega
  clear h8
  go_enter Try.func23, Try.ntmps23
  go_wp2_with fail
  refine (CK.out _ (((Below.refl _ _).alloc (Nat.le_refl _) _).alloc (by simp) _)).mono ?_
  rintro e w1 ⟨rfl, hb1⟩
  have hz_w1 := hb1.size
  try simp only [World.size_alloc, World.size_setCell] at hz_w1
  have all_c : w1.cell? ⟨w.heap.size, 0, none⟩ = some (.int .i64 seg) ∧ w1.cell? ⟨w.heap.size, 1, none⟩ = some (.slice wa lw wc) ∧ w1.cell? ⟨w.heap.size, 2, none⟩ = some (.slice ka lk kc) ∧ w1.cell? ⟨w.heap.size, 3, none⟩ = some (.slice va lv vc) ∧ w1.cell? ⟨w.heap.size, 4, none⟩ = some (.slice ca lc cc) ∧ w1.cell? ⟨w.heap.size, 5, none⟩ = some (.int .u64 laid) ∧ w1.cell? ⟨w.heap.size + 1, 0, none⟩ = some (.int .i64 0) ∧ w1.cell? ⟨w.heap.size + 1, 1, none⟩ = some (.slice none 0 0) ∧ w1.cell? ⟨w.heap.size + 1, 2, none⟩ = some (.slice none 0 0) := by refine ⟨?_, ?_, ?_, ?_, ?_, ?_, ?_, ?_, ?_⟩ <;> (refine (hb1.cell ?_).trans ?_ <;> first | (first | (with_reducible assumption) | omega | (simp only [szW] <;> omega) | (simp <;> omega)) | (first | (with_reducible assumption) | ((try simp (disch := first | omega | (simp only [szW] <;> omega) | fail) only [ceW]) <;> first | (with_reducible assumption) | rfl)))
  have all_f : w1.frozen? ⟨w.heap.size + 1, 0, none⟩ = false ∧ w1.frozen? ⟨w.heap.size + 1, 1, none⟩ = false ∧ w1.frozen? ⟨w.heap.size + 1, 2, none⟩ = false := by refine ⟨?_, ?_, ?_⟩ <;> (refine (hb1.frozen ?_).trans ?_ <;> first | (first | (with_reducible assumption) | omega | (simp only [szW] <;> omega) | (simp <;> omega)) | (first | (with_reducible assumption) | ((try simp (disch := first | omega | (simp only [szW] <;> omega) | fail) only [ceW]) <;> first | (with_reducible assumption) | rfl)))
  have all_z : w.heap.size < w1.heap.size ∧ w.heap.size + 1 < w1.heap.size := by refine ⟨?_, ?_⟩ <;> (omega)
  obtain ⟨c_t0, c_t1, c_t2, c_t3, c_t4, c_t5, c_r0, c_r1, c_r2⟩ := all_c
  try clear all_c
  obtain ⟨f_r0, f_r1, f_r2⟩ := all_f
  try clear all_f
  obtain ⟨z_t, z_r⟩ := all_z
  try clear all_z
  have hB1 : Below w.heap.size w w1 := by (repeat (first | with_reducible (first | exact Below.refl _ _ | assumption | exact Hid.out (by assumption) | refine Below.alloc ?_ ?_ _ | refine Below.setCell ?_ ?_ _ | refine below_drewN ?_ _ | refine Below.drew ?_ | refine below_via (by assumption) ?_ ?_) | (first | (with_reducible assumption) | omega | (simp only [szW] <;> omega) | (simp <;> omega))))
  go_wp2
  have hsw := three_set (w2 := w1) (b := w.heap.size + 1) (x := .int .i64 0) (y := .slice none 0 0) (z := .slice none 0 0) c_r0 c_r1 c_r2
  refine bodyPost_ret (results_ct rfl rfl (run_loadVar_many _ Try.underlying25 rfl (by kernel_rfl) (three_at hsw.1 hsw.2.1 hsw.2.2))) rfl ⟨_, _, rfl, World.ownsRow_nil _ _ _ _, World.ownsRow_nil _ _ _ _, ?_⟩
  exact ((hB1.setCell (by dsimp only; omega) _).setCell (by dsimp only; omega) _).setCell (by dsimp only; omega) _
theorem BuildIx_ok (c : SlC) (a : SlA) (hl : c.ws.length ≤ 1000000000000) (hl2 : c.ks.length ≤ 1000000000000) (w : World) (hin : SlIn w c a) :
    Calls Try.prog 23 #[slV c a] w (FreshIx2 w (bldL c) (bldM c) (bldC c) (.int .i64 (bldE c))) := by
  have CK := Lib.hid (fun W (hb : Below w.heap.size w W) => seekCheck_ok c a hl hl2 W (hin.below hb))
  by_cases hs : seekE c = 0
  · rw [hs] at CK
    by_cases h8 : 8192 < c.cs.length
    · have e : bldE c = 4 := by rw [bldE, if_pos hs, if_pos h8]
      rw [bldL, bldM, bldC, e, if_neg (by decide), if_neg (by decide), if_neg (by decide)]
      exact BuildIx_big _ _ _ _ _ _ _ _ _ _ _ _ _ _ w h8 CK
    · have e : bldE c = 0 := by rw [bldE, if_pos hs, if_neg h8]
      rw [bldL, bldM, bldC, e, if_pos rfl, if_pos rfl, if_pos rfl]
      have hm := seekE_may hs
      have hM : c.cs.length ≤ 8192 := by omega
      obtain ⟨S, D, M, hS, hS2, hS4, hS64, hcm, hMD, hDM, hD13, hSM, hks, hvs, hws, hwl⟩ := bld_facts hm hM
      have hD : c.cs.length.log2 = D := by rw [hcm, hMD]
      have hL : bLev c = D + 1 := by rw [bLev, hD]
      have hp := Nat.two_pow_pos D
      have hp2 : 2 ^ (D + 1) = 2 * 2 ^ D := by rw [Nat.pow_succ]; omega
      have hbs : ((c.seg.toNat * 2 ^ D : Nat) : Int) ≤ 65536 := by rw [hS2, hDM]; omega
      have h := BuildIx_main c.seg a.wa a.ka a.va a.ca a.wc a.kc a.vc a.cc c.ws.length c.ks.length c.vs.length c.cs.length c.laid w D (bLev c) (2 ^ bLev c - 1) (by rw [hL]; push_cast; rfl) (by omega) (by omega) (by rw [hL]; omega) (by rw [hL, hcm]; omega) (fun n => (trN c D n).1) (fun n => (trN c D n).2) CK
        (Lib.hid fun W => by have := Down_ok c.cs.length c.cs.length rfl (by omega) (by omega) W; rwa [hD] at this)
        (Lib.hid fun W hb n h1 h2 => by
          have ht : trN c D n = leafT c (n - M) := by rw [trN_leaf (by rw [hDM, ← hcm]; exact h1), hDM]
          have := leaf_ok c a hm hM (n - M) (by rw [hL] at h2; omega) W (hin.below hb)
          rw [← ht, show ((n - M : Nat) : Int) = (n : Int) - (c.cs.length : Nat) by omega] at this
          exact this)
        (Lib.hid fun n h1 h2 W => by
          have hb1 := trN_bd c D (2 * n)
          have hb2 := trN_bd c D (2 * n + 1)
          have ht := trN_node (c := c) (D := D) h1 (by rw [hDM, ← hcm]; exact h2)
          have := above_ok (trN c D (2 * n)).1 (trN c D (2 * n)).2 (trN c D (2 * n + 1)).1 (trN c D (2 * n + 1)).2 (by omega) (by omega) (by omega) (by omega) W
          rw [ht]
          exact this)
      rw [bltF_all _ (by omega) _ (fun _ _ _ => rfl), bltF_all _ (by omega) _ (fun _ _ _ => rfl)] at h
      have e1 : bMax c = (lay (bLev c) 1).map fun n => (trN c D n).1 := by rw [bMax, hD]
      have e2 : bCnt c = (lay (bLev c) 1).map fun n => (trN c D n).2 := by rw [bCnt, hD]
      rw [e1, e2]
      rw [show (D : Int) + 1 = ((bLev c : Nat) : Int) by rw [hL]; push_cast; rfl] at h
      exact h
  · have e : bldE c = seekE c := by rw [bldE, if_neg hs]
    rw [bldL, bldM, bldC, e, if_neg hs, if_neg hs, if_neg hs]
    exact BuildIx_no _ _ _ _ _ _ _ _ _ _ _ _ _ _ w _ hs CK
end
end Go.Proofs.Ytbmibaafkgleeaa
