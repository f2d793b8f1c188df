/- Merged: OccNth, PutW, Ref08, LayW, Put02. -/
import Derived.Test.YtookgoidlnlckaaDoorGapNamesP20
import Derived.Test.YtookgoidlnlckaaDoorGapNamesP12
import Derived.Test.YtookgoidlnlckaaDoorGapNamesP15
import Derived.Deep.CutRange
import Derived.Test.YtookgoidlnlckaaDoorGapNamesP19
import Derived.Test.YtookgoidlnlckaaDoorGapNamesP11
import Derived.Test.YtookgoidlnlckaaDoorGapNamesP18
import Derived.Test.YtookgoidlnlckaaDoorGapNamesP13
namespace Go.Proofs.YtookgoidlnlckaaDoor
set_option maxRecDepth 100000
set_option maxHeartbeats 40000000
set_option linter.unusedVariables false
set_option linter.unusedSimpArgs false
section
open Go.RowKit Go.Shelf
attribute [local go_sem] Oper.semAt_some
structure NthI (ws : List Int) (n t b0 b1 B : Nat) (w : World) (k : Nat) (W : World) : Prop where
 le : nthB ws n k ≤ t
 bx : W.cell? ⟨B, 0, none⟩ = some (.int .i64 ((t - nthB ws n k : Nat) : Int))
 fz : W.frozen? ⟨B, 0, none⟩ = false
 box0 : W.cell? ⟨b0, 0, none⟩ = some (.int .i64 0)
 box1 : W.cell? ⟨b1, 0, none⟩ = some (.int .i64 0)
 fz0 : W.frozen? ⟨b0, 0, none⟩ = false
 fz1 : W.frozen? ⟨b1, 0, none⟩ = false
 bel : Below B w W
theorem NthI.calm {ws : List Int} {n t b0 b1 B M : Nat} {w : World} {k : Nat} {W W' : World} (h : NthI ws n t b0 b1 B w k W) (hc : Calm M W W') (hB : B ≤ M) : NthI ws n t b0 b1 B w k W' :=
  ⟨h.le, hc.cell h.bx, hc.frozen h.bx h.fz, hc.cell h.box0, hc.cell h.box1, hc.frozen h.box0 h.fz0, hc.frozen h.box1 h.fz1, hc.below hB h.bel⟩
structure NthX (ws : List Int) (n t b0 b1 B : Nat) (w : World) (c : Code) (W : World) : Prop where
 code : c = .ret
 lt : t < (plsW ws 0 n).length
 hit : W.cell? ⟨b0, 0, none⟩ = some (.int .i64 ((plsW ws 0 n).getD t 0 : Nat))
 box1 : W.cell? ⟨b1, 0, none⟩ = some (.int .i64 0)
 bel : Below B w W
theorem NthX.calm {ws : List Int} {n t b0 b1 B M : Nat} {w : World} {c : Code} {W W' : World} (h : NthX ws n t b0 b1 B w c W) (hc : Calm M W W') (hB : B ≤ M) : NthX ws n t b0 b1 B w c W' :=
  ⟨h.code, h.lt, hc.cell h.hit, hc.cell h.box1, hc.below hB h.bel⟩
def nthV (ws : List Int) (n t : Nat) : Int := if t < (plsW ws 0 n).length then ((plsW ws 0 n).getD t 0 : Nat) else 0
def nthE (ws : List Int) (n t : Nat) : Int := if t < (plsW ws 0 n).length then 0 else 6
theorem parts_get0 (ws : List Int) {n m : Nat} (h : m < (n + 63) / 64) : (partsL ws 0 n).getD m #[] = #[.int .i64 ((64 * m : Nat) : Int), .int .u64 (cutV ws 0 n m)] := by
 have := partsL_get ws (a := 0) (b := n) (k := m) xo
 rwa [Nat.zero_div, Nat.zero_add] at this
theorem parts_len0 (ws : List Int) (n : Nat) : (partsL ws 0 n).length = (n + 63) / 64 := by
 rw [partsL_length, Nat.zero_div, Nat.sub_zero]
theorem Nth_ok (wa : Option Addr) (wc : Nat) (ws : List Int) (hu : U64s ws) (n t : Nat) (hn : n ≤ 65536) (ht : t ≤ 65536) (hl : ws.length ≤ 1000000000000) (hmay : wMayB ws n = true) (w : World) (hw : IsRow .u64 w wa ws) (hT : TabAt w) :
    Calls Tryd.prog 10 #[.slice wa ws.length wc, .int .i64 n, .int .i64 t] w (AnsB w (.tuple #[.int .i64 (nthV ws n t), .int .i64 (nthE ws n t)])) := by
 have AK := hid (fun w hw => (by have := occCheck_ok wa wc ws hu n hn hl w hw; rwa [if_pos hmay] at this : Calls Tryd.prog 30 #[.slice wa ws.length wc, .int .i64 n] w fun e w' => e = .returned (.int .i64 0) ∧ w = w'))
 have hlen : n ≤ 64 * ws.length := by
  simp only [wMayB, Bool.and_eq_true, decide_eq_true_eq] at hmay
  omega
 have IT := hid (fun S b1 b2 b3 s1 s2 s3 sw w hw c1 c2 c3 => parts1_iter wa wc ws hu 0 n (Nat.zero_le _) hn xo hl S b1 b2 b3 s1 s2 s3 sw w hw c1 c2 c3)
 have HW := hid hw
 have HT := hid hT
 have HLT := hid (fun x (h : wa = some x) (h0 : 0 < ws.length) => (show x.block < w.heap.size from by
  obtain ⟨bb, off, x', hx, -, -, hlt⟩ := hw.get h0
  rw [hx] at h
  cases h
  exact hlt))
 obtain ⟨m, hm⟩ : ∃ m, (n + 63) / 64 = m := ⟨_, rfl⟩
 have HP := hid (fun k (hk : k < m) => parts_get0 ws (n := n) (m := k) xo)
 have HPL := hid ((parts_len0 ws n).trans hm)
 have HV := hid (fun k (hk : k < m) => cutV_bd hu (a := 0) (b := n) (k := k) xo)
 have HIT := hid (fun k (hk : k < m) j hj => nth_hit (ws := ws) hu (n := n) (m := k) (k := j) xo hj)
 have HSU := hid (fun k (hk : k < m) => nthB_succ (ws := ws) hu (n := n) (m := k) xo)
 have NON := hid (nth_miss (ws := ws) (n := n) (m := m) xo)
 have hmb : m ≤ 1024 := xo
 obtain ⟨M, hM⟩ : ∃ M, ws.length = M := ⟨_, rfl⟩
 rw [hM] at hlen hl AK IT HLT ⊢
 clear hw hmay hM hu hm hT
 refine calls_of_wp_m Tryd.func10 rfl ?_
 simp only [Tryd.ntmps10, List.size_toArray, List.length_cons, List.length_nil, Nat.reduceAdd, Nat.reduceSub, Array.replicate_succ, Array.replicate_zero, List.push_toArray, List.append_toArray, List.nil_append, List.cons_append]
 obtain ⟨V, hV⟩ : ∃ V : Int, nthV ws n t = V := ⟨_, rfl⟩
 obtain ⟨E, hE⟩ : ∃ E : Int, nthE ws n t = E := ⟨_, rfl⟩
 rw [hV, hE]
 have YES := hid (fun (h : t < (plsW ws 0 n).length) => (show V = ((plsW ws 0 n).getD t 0 : Nat) ∧ E = 0 by rw [← hV, ← hE, nthV, nthE, if_pos h, if_pos h]; exact ⟨rfl, rfl⟩))
 have NO := hid (fun (h : ¬ t < (plsW ws 0 n).length) => (show V = 0 ∧ E = 6 by rw [← hV, ← hE, nthV, nthE, if_neg h, if_neg h]; exact ⟨rfl, rfl⟩))
 clear hV hE
 have g1 : decide ((t : Int) < 0) = false := by simp
 go_wp2
 refine wp_scope_loop 0 (fun _ _ _ => False) rfl (fun _ _ _ h => h.elim) ?_
 intro H hH hpass
 clear hH hpass
 go_wp2_with fail
 refine (AK.out _ (HW.out.below xbel)).mono ?_
 rintro e w' ⟨rfl, rfl⟩
 go_wp2
 refine wp_label ?_
 go_wp2_with fail
 refine (parts_ok wa M wc 0 n _).mono ?_
 rintro e w2 ⟨rfl, rfl⟩
 go_wp2
 refine wp_range (xs := partsL ws 0 n) (Kp := KpS (fun k => k ≠ w.heap.size ∧ k ≠ w.heap.size + 1 ∧ k ≠ w.heap.size + 2 ∧ k < w.heap.size + 6)) rfl (enters_of Tryd.func55 xk rfl)
   (IT.out (fun k => k ≠ w.heap.size ∧ k ≠ w.heap.size + 1 ∧ k ≠ w.heap.size + 2 ∧ k < w.heap.size + 6) (w.heap.size + 1 + 1 + 1) (w.heap.size + 1 + 1 + 2) (w.heap.size + 1 + 1 + 3) xo xo xo ?sw _ ?hw ?c1 ?c2 ?c3) (Below.refl _ _) (fun _ _ _ => rfl) (fun h k => fun i hi => (k i hi).trans (h i hi)) ?kb ?ps
   (NthI ws n t (w.heap.size + 1) (w.heap.size + 1 + 1) w.heap.size w) (NthX ws n t (w.heap.size + 1) (w.heap.size + 1 + 1) w.heap.size w) ?hI ?hX ?h0 ?round ?done ?stop
 case sw => intro x hx h0; have := HLT.out x hx h0; omega
 case hw => exact HW.out.below xbel
 case c1 => (exact xcn)
 case c2 => (exact xcn)
 case c3 => (exact xcn)
 case kb =>
  intro W l o o' hl _ _ k hk
  simp at hl
  exact World.putObj_heap_other xo
 case ps =>
  intro x hx
  simp only [partsL, List.mem_map] at hx
  obtain ⟨k, _, rfl⟩ := hx
  rfl
 case hI =>
  intro k W W' h hc
  exact h.calm hc (by simp; omega)
 case hX =>
  intro k W W' h hc
  exact h.calm hc (by simp; omega)
 case h0 =>
  exact ⟨by rw [nthB_zero]; omega, by rw [nthB_zero, Nat.sub_zero]; (exact xcn), by (exact xcn), by (exact xcn), by (exact xcn), by (exact xcn), by (exact xcn), by (exact xbel)⟩
 case round =>
  intro l k W hl hk hi
  rw [HPL.out] at hk
  rw [HP.out k hk]
  have hv := HV.out k hk
  have HH := hid (HIT.out k hk)
  have hsu := HSU.out k hk
  have h2 := popI_le (cutV ws 0 n k)
  have O1 := hid (fun W => Ones_ok (cutV ws 0 n k) hv.1 hv.2 W)
  have TZ := hid (fun j (hj : j < popI (cutV ws 0 n k)) => clrN_tz hv.1 hv.2 hj)
  generalize cutV ws 0 n k = x at *
  generalize popI x = px at *
  gi_wp2_with fail
  refine ⟨rfl, ?_⟩
  intro W2 hi2
  have hle := hi2.le
  have hbx := hi2.bx
  have hb0 := hi2.box0
  have hb1 := hi2.box1
  have hfz := hi2.fz
  have hf0 := hi2.fz0
  have hf1 := hi2.fz1
  have HBL := hid hi2.bel
  obtain ⟨r, hr⟩ : ∃ r, t - nthB ws n k = r := ⟨_, rfl⟩
  rw [hr] at hbx
  have HSUC := hid hsu
  have hrt : nthB ws n k + r = t := xo
  have HRT := hid hrt
  have hrb : r ≤ 65536 := xo
  clear hi hi2 hsu hr hrt hle
  gi_wp2_with fail
  refine ⟨trivial, rfl, (callsIn_wide.2 (O1.out _)).mono ?_⟩
  rintro e w' ⟨rfl, rfl⟩
  by_cases hlt : r < px
  · have d1 : decide ((px : Int) ≤ (r : Int)) = false := by simp; omega
    gi_wp2
    gi_loopg [10, 34] r (fun g xv iv wr => ∃ i : Nat, i + g = r ∧ xv = .int .u64 (clrN x i) ∧ iv = .int .i64 i ∧ wr = W2)
    case atStart => exact ⟨0, by omega, by rw [clrN_zero], rfl, rfl⟩
    case round =>
     obtain ⟨i, hir, rfl, rfl, rfl⟩ := hrel
     by_cases hil : i < r
     · obtain ⟨q0, ⟨q1, q2⟩, -⟩ := TZ.out i xo
       have hcl := clrN_succ x i
       obtain ⟨cx, hcx⟩ : ∃ c, clrN x i = c := ⟨_, rfl⟩
       rw [hcx] at hcl q0 q1 q2 ⊢
       have hsub : IntKind.u64.wrap (cx - 1) = cx - 1 := IntWalk.u64_in _ xo
       have HCL := hid hcl
       clear hcl hcx
       gi_wp2
       gi_roundg (gk - 1)
       case measure => omega
       case rel => exact ⟨i + 1, by omega, by rw [HCL.out]; rfl, by go_num, rfl⟩
     · have hie : i = r := xo
       subst hie
       obtain ⟨q0, ⟨q1, q2⟩, q3⟩ := TZ.out i hlt
       obtain ⟨z1, z2⟩ := HH.out i hlt
       have TT := hid (tz_ok _ q1 q2 q0 wr (HT.out.below HBL.out))
       have t3 := (tzI_bit q1 q2 q0).1
       rw [← q3, HRT.out] at z2
       rw [HRT.out] at z1
       generalize clrN x i = cx at *
       generalize tzI cx = tz at *
       have HE : Hid (((64 * k : Nat) : Int) + tz = ((plsW ws 0 n).getD t 0 : Nat)) := hid (by rw [← z2]; push_cast; rfl)
       have HZ := hid z1
       clear q3 z1 z2 q0 q1 q2 O1 TZ HH
       gi_wp2_with fail
       refine ⟨trivial, rfl, (callsIn_wide.2 TT.out).mono ?_⟩
       rintro e w' ⟨rfl, rfl⟩
       gi_wp2
       refine ⟨(KeepsOthers.setCell wr ⟨w.heap.size + 1, 0, none⟩ _).trans (KeepsOthers.setCell _ ⟨w.heap.size + 1 + 1, 0, none⟩ _), ⟨rfl, HZ.out, ?_, ?_, ?_⟩⟩
       · rw [← HE.out, World.cell?_setCell_other _ _ _ _ (by intro e; simp at e)]
         exact World.cell?_setCell_same _ _ _ hb0
       · exact World.cell?_setCell_same _ _ _ (by rw [World.cell?_setCell_other _ _ _ _ (by intro e; simp at e)]; exact hb1)
       · exact (HBL.out.setCell (by dsimp only; omega) _).setCell (by dsimp only; omega) _
  · have d1 : decide ((px : Int) ≤ (r : Int)) = true := by simp; omega
    have hwr : IntKind.i64.wrap ((r : Int) - (px : Int)) = ((r - px : Nat) : Int) := by rw [show (r : Int) - (px : Int) = ((r - px : Nat) : Int) by omega]; exact IntWalk.i64_in _ xo
    gi_wp2
    have e : t - nthB ws n (k + 1) = r - px := by have := HSUC.out; have := HRT.out; omega
    refine ⟨KeepsOthers.setCell W2 ⟨w.heap.size, 0, none⟩ _, fun i hi => Below.heap_setCell W2 ⟨w.heap.size, 0, none⟩ _ _ hi.1, ⟨?_, ?_, ?_, ?_, ?_, ?_, ?_, ?_⟩⟩
    · have := HSUC.out; have := HRT.out; omega
    · rw [e]
      exact World.cell?_setCell_same _ _ _ hbx
    · rw [World.frozen?_setCell]; exact hfz
    · rw [World.cell?_setCell_other _ _ _ _ (by intro e; simp at e)]; exact hb0
    · rw [World.cell?_setCell_other _ _ _ _ (by intro e; simp at e)]; exact hb1
    · rw [World.frozen?_setCell]; exact hf0
    · rw [World.frozen?_setCell]; exact hf1
    · exact HBL.out.setCell (Nat.le_refl _) _
 case done =>
  intro D W hD hi hK
  have hb0 := hi.box0
  have hb1 := hi.box1
  have hf0 := hi.fz0
  have hf1 := hi.fz1
  have hle := hi.le
  have hbl := hi.bel
  rw [HPL.out, NON.out] at hle
  obtain ⟨rfl, rfl⟩ := NO.out xo
  simp at hD
  have HBL := hid hbl
  clear hi hle hbl YES NO NON HIT HV HP
  go_wp2
  have hK2 : ((W.setCell ⟨w.heap.size + 1, 0, none⟩ (.int .i64 0)).setCell ⟨w.heap.size + 1 + 1, 0, none⟩ (.int .i64 6)).heap[D]? = some (.deferred (some [])) := ((Below.heap_setCell _ _ _ _ (by show D ≠ w.heap.size + 1 + 1; omega)).trans (Below.heap_setCell _ _ _ _ (by show D ≠ w.heap.size + 1; omega))).trans hK
  have hcalm : Calm (w.heap.size + 3) ((W.setCell ⟨w.heap.size + 1, 0, none⟩ (.int .i64 0)).setCell ⟨w.heap.size + 1 + 1, 0, none⟩ (.int .i64 6)) (((W.setCell ⟨w.heap.size + 1, 0, none⟩ (.int .i64 0)).setCell ⟨w.heap.size + 1 + 1, 0, none⟩ (.int .i64 6)).putObj D (.deferred none)) := Calm.putObj _ xo hK2 rfl
  have c0 : ((W.setCell ⟨w.heap.size + 1, 0, none⟩ (.int .i64 0)).setCell ⟨w.heap.size + 1 + 1, 0, none⟩ (.int .i64 6)).cell? ⟨w.heap.size + 1, 0, none⟩ = some (.int .i64 0) := by
   rw [World.cell?_setCell_other _ _ _ _ (by intro e; simp at e)]
   exact World.cell?_setCell_same _ _ _ hb0
  have c1 : ((W.setCell ⟨w.heap.size + 1, 0, none⟩ (.int .i64 0)).setCell ⟨w.heap.size + 1 + 1, 0, none⟩ (.int .i64 6)).cell? ⟨w.heap.size + 1 + 1, 0, none⟩ = some (.int .i64 6) := World.cell?_setCell_same _ _ _ (by rw [World.cell?_setCell_other _ _ _ _ (by intro e; simp at e)]; exact hb1)
  exact postM_one hK2 (results_cc rfl rfl rfl (run_loadVar_one Tryd.underlying3 rfl (hcalm.cell c0)) (run_loadVar_one Tryd.underlying34 rfl (hcalm.cell c1))) ⟨rfl, hcalm.below xo ((HBL.out.setCell (by dsimp only; omega) _).setCell (by dsimp only; omega) _)⟩
 case stop =>
  intro D c W hD hX hK
  obtain ⟨rfl, hlt, hc0, hc1, hbel⟩ := hX
  obtain ⟨rfl, rfl⟩ := YES.out hlt
  simp at hD
  have hcalm : Calm (w.heap.size + 3) W (W.putObj D (.deferred none)) := Calm.putObj _ xo hK rfl
  clear YES NO NON HIT HV HP
  go_wp2
  exact postM_one hK (results_cc rfl rfl rfl (run_loadVar_one Tryd.underlying3 rfl (hcalm.cell hc0)) (run_loadVar_one Tryd.underlying34 rfl (hcalm.cell hc1))) ⟨rfl, hcalm.below xo hbel⟩
end
section
open Go.RowKit Go.Shelf Go.Sort
theorem home_ok (seg : Int) (wa ka va ca : Option Addr) (wc kc vc cc lw n lv lc : Nat) (laid : Int) (k at_ : Nat) (e : Int) (hk : k ≤ 65536) (w : World) (NT : Hid (∀ W, Below w.heap.size w W → Calls Tryd.prog 10 #[.slice wa lw wc, .int .i64 n, .int .i64 ((k - 1 : Nat) : Int)] W (AnsB W (.tuple #[.int .i64 at_, .int .i64 e])))) :
    Calls Tryd.prog 25 #[.agg #[.int .i64 seg, .slice wa lw wc, .slice ka n kc, .slice va lv vc, .slice ca lc cc, .int .u64 laid], .int .i64 k] w (AnsB w (.int .i64 at_)) := by
 rcases Nat.eq_zero_or_pos k with rfl | hk0
 · rw [show ((0 - 1 : Nat) : Int) = 0 from rfl] at NT
   clear hk
   go_enter Tryd.func25, Tryd.ntmps25
   go_wp2_with fail
   refine (NT.out _ xbel).mono ?_
   rintro e w1 ⟨rfl, hb1⟩
   have hz_w1 := hb1.size
   try simp only [World.size_alloc, World.size_setCell] at hz_w1
   have hh := bc6 hb1 (al6 (b := w.heap.size) (by simp))
   obtain ⟨c_t0, c_t1, c_t2, c_t3, c_t4, c_t5⟩ := hh
   have z_t := blt hb1 (alz (b := w.heap.size) (by simp))
   have hB1 : Below w.heap.size w w1 := xbel
   go_wp2
   go_ret
   exact ⟨rfl, hB1⟩
 · have hw1 : IntKind.i64.wrap ((k : Int) - 1) = ((k - 1 : Nat) : Int) := by rw [show (k : Int) - 1 = ((k - 1 : Nat) : Int) by omega]; exact IntWalk.i64_in _ xo
   have hlt : ¬ (((k - 1 : Nat) : Int) < 0) := xo
   have hld : decide (((k - 1 : Nat) : Int) < 0) = false := by simp
   have hgt : decide ((0 : Int) < ((k - 1 : Nat) : Int)) = decide ((0 : Int) < ((k - 1 : Nat) : Int)) := rfl
   clear hgt
   go_enter Tryd.func25, Tryd.ntmps25
   go_wp2_with fail
   refine (NT.out _ xbel).mono ?_
   rintro e w1 ⟨rfl, hb1⟩
   have hz_w1 := hb1.size
   try simp only [World.size_alloc, World.size_setCell] at hz_w1
   have hh := bc6 hb1 (al6 (b := w.heap.size) (by simp))
   obtain ⟨c_t0, c_t1, c_t2, c_t3, c_t4, c_t5⟩ := hh
   have z_t := blt hb1 (alz (b := w.heap.size) (by simp))
   have hB1 : Below w.heap.size w w1 := xbel
   go_wp2
   go_ret
   exact ⟨rfl, hB1⟩
theorem putIs_ok (c : Cfg) (size : Int) (h : Nat) (n : Int) (f : Bool) (x : Int) (b1 b2 : Nat) (hn : 0 ≤ n ∧ n ≤ 65536) (w : World)
    (c_m0 : w.cell? ⟨b1, 0, none⟩ = some (.int .u8 c.tag))
    (c_m1 : w.cell? ⟨b1, 1, none⟩ = some (.int .i64 c.most))
    (c_m2 : w.cell? ⟨b1, 2, none⟩ = some (.int .i64 c.seg))
    (c_m3 : w.cell? ⟨b1, 3, none⟩ = some (.int .i64 c.least))
    (c_m4 : w.cell? ⟨b1, 4, none⟩ = some (.int .i64 c.den))
    (c_m5 : w.cell? ⟨b1, 5, none⟩ = some (.int .i64 c.ll))
    (c_m6 : w.cell? ⟨b1, 6, none⟩ = some (.int .i64 c.rl))
    (c_m7 : w.cell? ⟨b1, 7, none⟩ = some (.int .i64 c.rh))
    (c_m8 : w.cell? ⟨b1, 8, none⟩ = some (.int .i64 c.lh))
    (c_s0 : w.cell? ⟨b2, 0, none⟩ = some (.int .i64 size))
    (FU : Hid (∀ W, Below w.heap.size w W → Calls Tryd.prog 23 #[.agg #[.int .u8 c.tag, .int .i64 c.most, .int .i64 c.seg, .int .i64 c.least, .int .i64 c.den, .int .i64 c.ll, .int .i64 c.rl, .int .i64 c.rh, .int .i64 c.lh], .int .i64 size, .int .i64 h, .int .i64 (n + 1)] W (AnsB W (.tuple #[.bool f, .int .i64 x])))) :
    Calls Tryd.prog 22 #[.int .i64 h, .int .i64 n, .pointer (some ⟨b1, 0, none⟩), .pointer (some ⟨b2, 0, none⟩)] w (AnsB w (.bool !f)) := by
 have hw1 : IntKind.i64.wrap (n + 1) = n + 1 := IntWalk.i64_in _ xo
 go_enter Tryd.func22, Tryd.ntmps22
 go_wp2_with fail
 refine (FU.out _ xbel).mono ?_
 rintro e w1 ⟨rfl, hb1⟩
 go_wp2
 go_ret
 exact ⟨rfl, hb1⟩
theorem takeIs_ok (c : Cfg) (seg : Int) (wa ka va ca : Option Addr) (wc kc vc cc lw n lv lc : Nat) (laid : Int) (h : Nat) (m : Int) (f : Bool) (x : Int) (b1 b2 : Nat) (w : World)
    (c_m0 : w.cell? ⟨b1, 0, none⟩ = some (.int .u8 c.tag))
    (c_m1 : w.cell? ⟨b1, 1, none⟩ = some (.int .i64 c.most))
    (c_m2 : w.cell? ⟨b1, 2, none⟩ = some (.int .i64 c.seg))
    (c_m3 : w.cell? ⟨b1, 3, none⟩ = some (.int .i64 c.least))
    (c_m4 : w.cell? ⟨b1, 4, none⟩ = some (.int .i64 c.den))
    (c_m5 : w.cell? ⟨b1, 5, none⟩ = some (.int .i64 c.ll))
    (c_m6 : w.cell? ⟨b1, 6, none⟩ = some (.int .i64 c.rl))
    (c_m7 : w.cell? ⟨b1, 7, none⟩ = some (.int .i64 c.rh))
    (c_m8 : w.cell? ⟨b1, 8, none⟩ = some (.int .i64 c.lh))
    (c_s0 : w.cell? ⟨b2, 0, none⟩ = some (.int .i64 seg))
    (c_s1 : w.cell? ⟨b2, 1, none⟩ = some (.slice wa lw wc))
    (c_s2 : w.cell? ⟨b2, 2, none⟩ = some (.slice ka n kc))
    (c_s3 : w.cell? ⟨b2, 3, none⟩ = some (.slice va lv vc))
    (c_s4 : w.cell? ⟨b2, 4, none⟩ = some (.slice ca lc cc))
    (c_s5 : w.cell? ⟨b2, 5, none⟩ = some (.int .u64 laid))
    (FU : Hid (∀ W, Below w.heap.size w W → Calls Tryd.prog 35 #[.agg #[.int .u8 c.tag, .int .i64 c.most, .int .i64 c.seg, .int .i64 c.least, .int .i64 c.den, .int .i64 c.ll, .int .i64 c.rl, .int .i64 c.rh, .int .i64 c.lh], .int .i64 n, .int .i64 h, .int .i64 m] W (AnsB W (.tuple #[.bool f, .int .i64 x])))) :
    Calls Tryd.prog 37 #[.int .i64 h, .int .i64 m, .pointer (some ⟨b1, 0, none⟩), .pointer (some ⟨b2, 0, none⟩)] w (AnsB w (.bool !f)) := by
 go_enter Tryd.func37, Tryd.ntmps37
 go_wp2_with fail
 refine (FU.out _ xbel).mono ?_
 rintro e w1 ⟨rfl, hb1⟩
 go_wp2
 go_ret
 exact ⟨rfl, hb1⟩
def HighR (w : World) (a at_ H : Nat) (t : Int) (e : Ending) (w' : World) : Prop :=
  ∃ v, e = .returned (.tuple #[.int .i64 t, v]) ∧ w'.ownsRow w.heap.size 58 2 v (H + 1) ((prI (winsL a at_ (H + 1))).map (Value.int .i64)) ∧ Below w.heap.size w w'
theorem highest_ok (seg : Int) (wa ka va ca : Option Addr) (wc kc vc cc lw n lv lc : Nat) (laid : Int) (a H at_ : Nat) (hH : H ≤ 14) (p : Nat → Bool) (m : Nat → Int) (gf : FuncId) (lb : Array Value) (eg : ∀ args w, (callFunc gf args).run Tryd.prog w = .ok (.enter gf args) w) (w : World)
    (PA : Hid (∀ W, Below w.heap.size w W → Calls Tryd.prog 34 #[.int .i64 seg, .int .i64 n, .int .i64 at_] W (FreshW2 W (winsL a at_ (H + 1)) (.int .i64 0))))
    (AM : Hid (∀ h, h ≤ H → ∀ W, Below w.heap.size w W → Calls Tryd.prog 21 #[.agg #[.int .i64 seg, .slice wa lw wc, .slice ka n kc, .slice va lv vc, .slice ca lc cc, .int .u64 laid], .int .i64 ((wnd a h at_ * 2 ^ (a + h) : Nat) : Int), .int .i64 (((wnd a h at_ * 2 ^ (a + h) : Nat) : Int) + ((2 ^ (a + h) : Nat) : Int))] W (AnsB W (.int .i64 (m h)))))
    (IS : Hid (∀ h : Nat, h ≤ H → ∀ W, Below w.heap.size w W → Calls Tryd.prog gf (#[.int .i64 h, .int .i64 (m h)] ++ lb) W (AnsB W (.bool (p h))))) :
    Calls Tryd.prog 24 #[.agg #[.int .i64 seg, .slice wa lw wc, .slice ka n kc, .slice va lv vc, .slice ca lc cc, .int .u64 laid], .int .i64 at_, .func (.func gf) #[] lb] w (HighR w a at_ H (topI p (H + 1))) := by
 have HWL := hid (winsL_length a at_ (H + 1))
 have HWG := hid (fun i (h : i < H + 1) => winsL_get (a := a) (at_ := at_) h)
 go_enter Tryd.func24, Tryd.ntmps24
 go_wp2
 refine wp_scope_loop 0 (fun _ _ _ => False) rfl (fun _ _ _ h => h.elim) ?_
 intro HQ hHQ hpass
 clear hHQ hpass
 go_wp2_with fail
 refine (PA.out _ xbel).mono ?_
 rintro e w1 ⟨v1, rfl, ho1, hb1⟩
 have hz_w1 := hb1.size
 try simp only [World.size_alloc, World.size_setCell] at hz_w1
 have hh := bc6 hb1 (al6 (b := w.heap.size) (by simp))
 obtain ⟨c_t0, c_t1, c_t2, c_t3, c_t4, c_t5⟩ := hh
 have z_t := blt hb1 (alz (b := w.heap.size) (by simp))
 have hB1 : Below w.heap.size w w1 := xbel
 have HB1 := hid hB1
 have hz1 := hB1.size
 obtain ⟨ra, rc, rfl, hi1, -, -, hrc, -⟩ := row_of_owns ho1
 rw [HWL.out] at hrc ho1 ⊢
 have hw1 : IntKind.i64.wrap (((H + 1 : Nat) : Int) - 1) = ((H + 1 : Nat) : Int) - 1 := IntWalk.i64_in _ xo
 have HR1 := hid hi1
 have HO1 := hid ho1
 clear hb1 hB1 hi1 ho1
 go_wp2
 refine wp_label ?_
 go_wp2
 go_loopg [10] (H + 1) (fun gk iv wr => gk ≤ H + 1 ∧ iv = .int .i64 ((gk : Int) - 1) ∧ Hid (topI p (H + 1) = topI p gk) ∧ Hid (Below w1.heap.size w1 wr))
 case atStart => exact ⟨Nat.le_refl _, by congr 1; omega, hid rfl, hid (Below.refl _ _)⟩
 case round =>
  obtain ⟨hg, rfl, HT, HB⟩ := hrel
  rcases Nat.eq_zero_or_pos gk with rfl | hg0
  · have d1 : decide ((0 : Int) ≤ ((0 : Nat) : Int) - 1) = false := by decide
    have HB2 := hid (below_via HB.out HB1.out hz1)
    have HO2 := hid (owns_base (base' := w.heap.size) (owns_below HO1.out HB.out) (by first | omega | (simp; done)))
    have HV := hid (HT.out.trans (topI_zero p))
    go_wp2
    simp only [Exit.jump]
    go_ret2
    exact ⟨_, by rw [HV.out]; rfl, HO2.out, HB2.out⟩
  · obtain ⟨h, rfl⟩ : ∃ h, gk = h + 1 := ⟨gk - 1, by omega⟩
    have e1 : (((h + 1 : Nat) : Int) - 1) = (h : Int) := xo
    rw [e1]
    have hbr := HB.out
    have hz_wr := hbr.size
    try simp only [World.size_alloc, World.size_setCell] at hz_wr
    have hh := bc6 hbr ⟨c_t0, c_t1, c_t2, c_t3, c_t4, c_t5⟩
    clear c_t0 c_t1 c_t2 c_t3 c_t4 c_t5
    obtain ⟨c_t0, c_t1, c_t2, c_t3, c_t4, c_t5⟩ := hh
    replace z_t := blt hbr z_t
    have HB2 := hid (below_via hbr HB1.out hz1)
    have HO2 := hid (owns_base (base' := w.heap.size) (owns_below HO1.out hbr) (by first | omega | (simp; done)))
    have hpr := prI_get (l := winsL a at_ (H + 1)) (i := h) (by rw [HWL.out]; omega)
    rw [HWG.out h xo] at hpr
    obtain ⟨pb, po, x, y, rfl, hx, hy, hc0, hc1, -⟩ := (HR1.out.below hbr).get2 (i := h) (by rw [prI_length, HWL.out]; omega)
    have ex : ((wnd a h at_ * 2 ^ (a + h) : Nat) : Int) = x := by rw [← hx.out, hpr.1]
    have ey : ((wnd a h at_ * 2 ^ (a + h) : Nat) : Int) + ((2 ^ (a + h) : Nat) : Int) = y := by rw [← hy.out, hpr.2]
    have hhH : h ≤ H := xo
    have AM2 := hid (AM.out h hhH)
    have IS2 := hid (IS.out h hhH)
    have TY := hid (fun (q : p h = true) => topI_yes q)
    have TN := hid (fun (q : p h = false) => topI_no q)
    have hsub : IntKind.i64.wrap ((h : Int) - 1) = (h : Int) - 1 := IntWalk.i64_in _ xo
    rw [ey, ex] at AM2
    generalize m h = mh at *
    generalize p h = ph at *
    clear hpr hx hy ex ey e1 hbr
    go_upto_region 5 with (fail)
    have K0 := hid (fun d os => Calls.regrown_of (w := wr) (d := d) (os := os) (AM2.out (grow (redrawn wr d) os) (below_via (below_regrown wr d os) HB2.out HB2.out.size)))
    have K1 := hid (fun d os => Calls.regrown_of (w := wr) (d := d) (os := os) (IS2.out (grow (redrawn wr d) os) (below_via (below_regrown wr d os) HB2.out HB2.out.size)))
    have q0 := cell_regrown c_t0
    have q1 := cell_regrown c_t1
    have q2 := cell_regrown c_t2
    have q3 := cell_regrown c_t3
    have q4 := cell_regrown c_t4
    have q5 := cell_regrown c_t5
    have q6 := cell_regrown hc0
    have q7 := cell_regrown hc1
    refine wp_region_quiet_below xk xk ?_
    repeat (go_big_quiet_step (first | with_reducible exact K0.out _ _ | with_reducible exact K1.out _ _ | exact K0.out _ _ | exact K1.out _ _))
    refine wpQuiet_nil ?_
    intro _ hw'
    obtain ⟨⟨dq, osq⟩, hw''⟩ := hw'
    subst hw''
    have hbq := below_regrown wr dq osq
    clear q0 q1 q2 q3 q4 q5 q6 q7 K0 K1
    generalize Sort.grow (redrawn wr dq) osq = wx at *
    have HB4 := xv hbq HB2
    have HC4 := xv hbq HB
    have HO4 := hid (owns_below HO2.out hbq)
    clear hbq
    cases ph with
    | true =>
     have HV := hid (HT.out.trans (TY.out rfl))
     clear TY TN
     go_wp2
     simp only [Exit.jump]
     go_ret2
     exact ⟨_, by rw [HV.out]; rfl, HO4.out, HB4.out⟩
    | false =>
     have HV := hid (HT.out.trans (TN.out rfl))
     clear TY TN
     go_wp2
     go_roundg h
     case measure => omega
     case rel => exact ⟨by omega, by first | rfl | rw [hsub] | go_num, HV, HC4⟩
end
section
open Go.RowKit Go.Shelf
attribute [local go_sem] Oper.semAt_some
end
section
open Go.RowKit Go.Shelf
attribute [local go_sem] Oper.semAt_some
theorem over_core (w : World) (seg : Int) (wa ka va ca : Option Addr) (wc kc vc cc lw n lv lc : Nat) (laid : Int) (lo hi m : Nat) (ps : List Int) (la : Option Addr) (pl : Nat) (d : SlC) (hps : ps.length = m)
    (CK : Hid (∀ W, Below w.heap.size w W → Calls Tryd.prog 46 #[.agg #[.int .i64 seg, .slice wa lw wc, .slice ka n kc, .slice va lv vc, .slice ca lc cc, .int .u64 laid]] W (AnsB W (.int .i64 0))))
    (PL : Hid (∀ W, Below w.heap.size w W → Calls Tryd.prog 71 #[.int .i64 m, .int .i64 lo, .int .i64 hi] W (FreshI2 W ps (.int .i64 0))))
    (FI : Hid (∀ W pa pc, Below w.heap.size w W → IsRow .i64 W pa ps → Calls Tryd.prog 72 #[.agg #[.int .i64 seg, .slice wa lw wc, .slice ka n kc, .slice va lv vc, .slice ca lc cc, .int .u64 laid], .int .i64 lo, .int .i64 hi, .slice pa m pc, .slice la m pl] W (FreshSl2 W d (.int .i64 0)))) :
    Calls Tryd.prog 50 #[.agg #[.int .i64 seg, .slice wa lw wc, .slice ka n kc, .slice va lv vc, .slice ca lc cc, .int .u64 laid], .int .i64 lo, .int .i64 hi, .slice la m pl] w (FreshSl2 w d (.int .i64 0)) := by
 have HPL := hid hps
 clear hps
 go_enter Tryd.func50, Tryd.ntmps50
 go_wp2
 refine wp_scope_loop 0 (fun _ _ _ => False) rfl (fun _ _ _ h => h.elim) ?_
 intro H hH hpass
 go_wp2_with fail
 refine (CK.out _ xbel).mono ?_
 rintro e w1 ⟨rfl, hb1⟩
 have hz_w1 := hb1.size
 try simp only [World.size_alloc, World.size_setCell] at hz_w1
 have hh := bc6 hb1 (au6 (al6 (b := w.heap.size) (by simp)))
 obtain ⟨c_t0, c_t1, c_t2, c_t3, c_t4, c_t5⟩ := hh
 have z_t := blt hb1 (auz (alz (b := w.heap.size) (by simp)))
 have hh := bc6 hb1 (al6 (b := w.heap.size + 1) (by simp))
 obtain ⟨c_r0, c_r1, c_r2, c_r3, c_r4, c_r5⟩ := hh
 have hh := bf6 hb1 (alz (b := w.heap.size + 1) (by simp)) (alf6 (b := w.heap.size + 1) (by simp))
 obtain ⟨f_r0, f_r1, f_r2, f_r3, f_r4, f_r5⟩ := hh
 have z_r := blt hb1 (alz (b := w.heap.size + 1) (by simp))
 have hB1 : Below w.heap.size w w1 := xbel
 have HB1 := hid hB1
 clear hb1 hB1
 go_wp2_with fail
 refine (PL.out _ HB1.out).mono ?_
 rintro e w2 ⟨v, rfl, ho, hb2⟩
 have hz_w2 := hb2.size
 try simp only [World.size_alloc, World.size_setCell] at hz_w2
 have hh := bc6 hb2 ⟨c_t0, c_t1, c_t2, c_t3, c_t4, c_t5⟩
 clear c_t0 c_t1 c_t2 c_t3 c_t4 c_t5
 obtain ⟨c_t0, c_t1, c_t2, c_t3, c_t4, c_t5⟩ := hh
 replace z_t := blt hb2 z_t
 have hh := bc6 hb2 ⟨c_r0, c_r1, c_r2, c_r3, c_r4, c_r5⟩
 clear c_r0 c_r1 c_r2 c_r3 c_r4 c_r5
 obtain ⟨c_r0, c_r1, c_r2, c_r3, c_r4, c_r5⟩ := hh
 have hh := bf6 hb2 z_r ⟨f_r0, f_r1, f_r2, f_r3, f_r4, f_r5⟩
 clear f_r0 f_r1 f_r2 f_r3 f_r4 f_r5
 obtain ⟨f_r0, f_r1, f_r2, f_r3, f_r4, f_r5⟩ := hh
 replace z_r := blt hb2 z_r
 have HB2 := xv hb2 HB1
 rw [HPL.out] at ho
 obtain ⟨pa, pc, rfl, hi2, -⟩ := row_of_owns ho
 have FC := hid (FI.out w2 pa pc HB2.out hi2)
 have hz2 := z_r
 clear hb2 ho hi2
 go_wp2_with fail
 refine (FC.out).mono ?_
 rintro e w3 ⟨v1, v2, v3, v4, rfl, p1, p2, p3, p4, hb3⟩
 have hz_w3 := hb3.size
 try simp only [World.size_alloc, World.size_setCell] at hz_w3
 have hh := bc6 hb3 ⟨c_t0, c_t1, c_t2, c_t3, c_t4, c_t5⟩
 clear c_t0 c_t1 c_t2 c_t3 c_t4 c_t5
 obtain ⟨c_t0, c_t1, c_t2, c_t3, c_t4, c_t5⟩ := hh
 replace z_t := blt hb3 z_t
 have hh := bc6 hb3 ⟨c_r0, c_r1, c_r2, c_r3, c_r4, c_r5⟩
 clear c_r0 c_r1 c_r2 c_r3 c_r4 c_r5
 obtain ⟨c_r0, c_r1, c_r2, c_r3, c_r4, c_r5⟩ := hh
 have hh := bf6 hb3 z_r ⟨f_r0, f_r1, f_r2, f_r3, f_r4, f_r5⟩
 clear f_r0 f_r1 f_r2 f_r3 f_r4 f_r5
 obtain ⟨f_r0, f_r1, f_r2, f_r3, f_r4, f_r5⟩ := hh
 replace z_r := blt hb3 z_r
 have HB3 := xv hb3 HB2
 obtain ⟨a1, k1, rfl, -⟩ := owns_news p1
 obtain ⟨a2, k2, rfl, -⟩ := owns_news p2
 obtain ⟨a3, k3, rfl, -⟩ := owns_news p3
 obtain ⟨a4, k4, rfl, -⟩ := owns_news p4
 have HP1 := hid p1
 have HP2 := hid p2
 have HP3 := hid p3
 have HP4 := hid p4
 clear p1 p2 p3 p4
 clear hb3
 go_upto_region 7 with (fail)
 have hsx := six_set (x := .int .i64 d.seg) (y := .slice a1 d.ws.length k1) (z := .slice a2 d.ks.length k2) (p := .slice a3 d.vs.length k3) (q := .slice a4 d.cs.length k4) (r := .int .u64 d.laid) c_r0 c_r1 c_r2 c_r3 c_r4 c_r5
 have hfz : ∀ a : Addr, ((((((w3.setCell ⟨w.heap.size + 1, 0, none⟩ (.int .i64 d.seg)).setCell ⟨w.heap.size + 1, 1, none⟩ (.slice a1 d.ws.length k1)).setCell ⟨w.heap.size + 1, 2, none⟩ (.slice a2 d.ks.length k2)).setCell ⟨w.heap.size + 1, 3, none⟩ (.slice a3 d.vs.length k3)).setCell ⟨w.heap.size + 1, 4, none⟩ (.slice a4 d.cs.length k4)).setCell ⟨w.heap.size + 1, 5, none⟩ (.int .u64 d.laid)).frozen? a = w3.frozen? a := fun a => by
  rw [World.frozen?_setCell, World.frozen?_setCell, World.frozen?_setCell, World.frozen?_setCell, World.frozen?_setCell, World.frozen?_setCell]
 have HQw4 : Hid (∀ q, q ≠ w.heap.size + 1 → ((((((w3.setCell ⟨w.heap.size + 1, 0, none⟩ (.int .i64 d.seg)).setCell ⟨w.heap.size + 1, 1, none⟩ (.slice a1 d.ws.length k1)).setCell ⟨w.heap.size + 1, 2, none⟩ (.slice a2 d.ks.length k2)).setCell ⟨w.heap.size + 1, 3, none⟩ (.slice a3 d.vs.length k3)).setCell ⟨w.heap.size + 1, 4, none⟩ (.slice a4 d.cs.length k4)).setCell ⟨w.heap.size + 1, 5, none⟩ (.int .u64 d.laid)).heap[q]? = w3.heap[q]?) := hid fun q hq => by
  rw [heap_setCell_ne _ _ _ hq, heap_setCell_ne _ _ _ hq, heap_setCell_ne _ _ _ hq, heap_setCell_ne _ _ _ hq, heap_setCell_ne _ _ _ hq, heap_setCell_ne _ _ _ hq]
 have hzw4 : ((((((w3.setCell ⟨w.heap.size + 1, 0, none⟩ (.int .i64 d.seg)).setCell ⟨w.heap.size + 1, 1, none⟩ (.slice a1 d.ws.length k1)).setCell ⟨w.heap.size + 1, 2, none⟩ (.slice a2 d.ks.length k2)).setCell ⟨w.heap.size + 1, 3, none⟩ (.slice a3 d.vs.length k3)).setCell ⟨w.heap.size + 1, 4, none⟩ (.slice a4 d.cs.length k4)).setCell ⟨w.heap.size + 1, 5, none⟩ (.int .u64 d.laid)).heap.size = w3.heap.size := by simp
 have HSw4 : Hid (Below w.heap.size w ((((((w3.setCell ⟨w.heap.size + 1, 0, none⟩ (.int .i64 d.seg)).setCell ⟨w.heap.size + 1, 1, none⟩ (.slice a1 d.ws.length k1)).setCell ⟨w.heap.size + 1, 2, none⟩ (.slice a2 d.ks.length k2)).setCell ⟨w.heap.size + 1, 3, none⟩ (.slice a3 d.vs.length k3)).setCell ⟨w.heap.size + 1, 4, none⟩ (.slice a4 d.cs.length k4)).setCell ⟨w.heap.size + 1, 5, none⟩ (.int .u64 d.laid))) := hid ((((((HB3.out.setCell (by dsimp only; omega) _).setCell (by dsimp only; omega) _).setCell (by dsimp only; omega) _).setCell (by dsimp only; omega) _).setCell (by dsimp only; omega) _).setCell (by dsimp only; omega) _)
 generalize ((((((w3.setCell ⟨w.heap.size + 1, 0, none⟩ (.int .i64 d.seg)).setCell ⟨w.heap.size + 1, 1, none⟩ (.slice a1 d.ws.length k1)).setCell ⟨w.heap.size + 1, 2, none⟩ (.slice a2 d.ks.length k2)).setCell ⟨w.heap.size + 1, 3, none⟩ (.slice a3 d.vs.length k3)).setCell ⟨w.heap.size + 1, 4, none⟩ (.slice a4 d.cs.length k4)).setCell ⟨w.heap.size + 1, 5, none⟩ (.int .u64 d.laid)) = w4 at *
 have s0 := hsx 0 _ rfl
 have s1 := hsx 1 _ rfl
 have s2 := hsx 2 _ rfl
 have s3 := hsx 3 _ rfl
 have s4 := hsx 4 _ rfl
 have s5 := hsx 5 _ rfl
 replace f_r0 := (hfz _).trans f_r0
 replace f_r1 := (hfz _).trans f_r1
 replace f_r2 := (hfz _).trans f_r2
 replace f_r3 := (hfz _).trans f_r3
 replace f_r4 := (hfz _).trans f_r4
 replace f_r5 := (hfz _).trans f_r5
 clear hsx hfz c_r0 c_r1 c_r2 c_r3 c_r4 c_r5
 go_wp2
 simp only [Exit.jump]
 refine bodyPost_ret (results_ct rfl rfl (run_loadVar_many _ Tryd.underlying29 rfl xk (six_set s0 s1 s2 s3 s4 s5))) rfl ⟨_, _, _, _, rfl, ?_, ?_, ?_, ?_, ?_⟩
 · exact owns_base (owns_heap HP1.out fun j hj => (by
     have h9 := (HP1.out.lt j hj).1
     rw [heap_setCell_ne _ _ _ (by dsimp only; omega), heap_setCell_ne _ _ _ (by dsimp only; omega), heap_setCell_ne _ _ _ (by dsimp only; omega), heap_setCell_ne _ _ _ (by dsimp only; omega), heap_setCell_ne _ _ _ (by dsimp only; omega), heap_setCell_ne _ _ _ (by dsimp only; omega)]
     exact HQw4.out _ xo)) xo
 · exact owns_base (owns_heap HP2.out fun j hj => (by
     have h9 := (HP2.out.lt j hj).1
     rw [heap_setCell_ne _ _ _ (by dsimp only; omega), heap_setCell_ne _ _ _ (by dsimp only; omega), heap_setCell_ne _ _ _ (by dsimp only; omega), heap_setCell_ne _ _ _ (by dsimp only; omega), heap_setCell_ne _ _ _ (by dsimp only; omega), heap_setCell_ne _ _ _ (by dsimp only; omega)]
     exact HQw4.out _ xo)) xo
 · exact owns_base (owns_heap HP3.out fun j hj => (by
     have h9 := (HP3.out.lt j hj).1
     rw [heap_setCell_ne _ _ _ (by dsimp only; omega), heap_setCell_ne _ _ _ (by dsimp only; omega), heap_setCell_ne _ _ _ (by dsimp only; omega), heap_setCell_ne _ _ _ (by dsimp only; omega), heap_setCell_ne _ _ _ (by dsimp only; omega), heap_setCell_ne _ _ _ (by dsimp only; omega)]
     exact HQw4.out _ xo)) xo
 · exact owns_base (owns_heap HP4.out fun j hj => (by
     have h9 := (HP4.out.lt j hj).1
     rw [heap_setCell_ne _ _ _ (by dsimp only; omega), heap_setCell_ne _ _ _ (by dsimp only; omega), heap_setCell_ne _ _ _ (by dsimp only; omega), heap_setCell_ne _ _ _ (by dsimp only; omega), heap_setCell_ne _ _ _ (by dsimp only; omega), heap_setCell_ne _ _ _ (by dsimp only; omega)]
     exact HQw4.out _ xo)) xo
 · exact (((((HSw4.out.setCell (by dsimp only; omega) _).setCell (by dsimp only; omega) _).setCell (by dsimp only; omega) _).setCell (by dsimp only; omega) _).setCell (by dsimp only; omega) _).setCell (by dsimp only; omega) _
theorem Into_core (w : World) (seg : Int) (wa ka va ca : Option Addr) (wc kc vc cc lw n lv lc : Nat) (laid : Int) (size m : Nat) (la : Option Addr) (pl : Nat) (z d : SlC) (hzu : U64s z.ws)
    (CK : Hid (∀ W, Below w.heap.size w W → Calls Tryd.prog 46 #[.agg #[.int .i64 seg, .slice wa lw wc, .slice ka n kc, .slice va lv vc, .slice ca lc cc, .int .u64 laid]] W (AnsB W (.int .i64 0))))
    (NW : Hid (∀ W, Below w.heap.size w W → Calls Tryd.prog 44 #[.int .i64 seg, .int .i64 size] W (FreshSl2 W z (.int .i64 0))))
    (OV : Hid (∀ W sa, Below w.heap.size w W → SlIn W ⟨z.seg, z.ws, z.ks, z.vs, z.cs, laid⟩ sa → (sa.wa = none → sa.wc = 0) → (sa.ka = none → sa.kc = 0) → (sa.va = none → sa.vc = 0) → (sa.ca = none → sa.cc = 0) → Calls Tryd.prog 50 #[slV ⟨z.seg, z.ws, z.ks, z.vs, z.cs, laid⟩ sa, .int .i64 0, .int .i64 size, .slice la m pl] W (FreshSl2 W d (.int .i64 0)))) :
    Calls Tryd.prog 29 #[.agg #[.int .i64 seg, .slice wa lw wc, .slice ka n kc, .slice va lv vc, .slice ca lc cc, .int .u64 laid], .int .i64 size, .slice la m pl] w (FreshSl2 w d (.int .i64 0)) := by
 go_enter Tryd.func29, Tryd.ntmps29
 go_wp2_with fail
 refine (CK.out _ xbel).mono ?_
 rintro e w0 ⟨rfl, hb0⟩
 have hz_w0 := hb0.size
 try simp only [World.size_alloc, World.size_setCell] at hz_w0
 have hh := bc6 hb0 (au6 (al6 (b := w.heap.size) (by simp)))
 obtain ⟨c_t0, c_t1, c_t2, c_t3, c_t4, c_t5⟩ := hh
 have z_t := blt hb0 (auz (alz (b := w.heap.size) (by simp)))
 have hh := bc6 hb0 (al6 (b := w.heap.size + 1) (by simp))
 obtain ⟨c_r0, c_r1, c_r2, c_r3, c_r4, c_r5⟩ := hh
 have hh := bf6 hb0 (alz (b := w.heap.size + 1) (by simp)) (alf6 (b := w.heap.size + 1) (by simp))
 obtain ⟨f_r0, f_r1, f_r2, f_r3, f_r4, f_r5⟩ := hh
 have z_r := blt hb0 (alz (b := w.heap.size + 1) (by simp))
 have hB0 : Below w.heap.size w w0 := xbel
 have HB0 := hid hB0
 clear hb0 hB0
 go_wp2_with fail
 refine (NW.out _ HB0.out).mono ?_
 rintro e w1 ⟨v1, v2, v3, v4, rfl, p1, p2, p3, p4, hb1⟩
 have hz_w1 := hb1.size
 try simp only [World.size_alloc, World.size_setCell] at hz_w1
 have hh := bc6 hb1 ⟨c_t0, c_t1, c_t2, c_t3, c_t4, c_t5⟩
 clear c_t0 c_t1 c_t2 c_t3 c_t4 c_t5
 obtain ⟨c_t0, c_t1, c_t2, c_t3, c_t4, c_t5⟩ := hh
 replace z_t := blt hb1 z_t
 have hh := bc6 hb1 ⟨c_r0, c_r1, c_r2, c_r3, c_r4, c_r5⟩
 clear c_r0 c_r1 c_r2 c_r3 c_r4 c_r5
 obtain ⟨c_r0, c_r1, c_r2, c_r3, c_r4, c_r5⟩ := hh
 have hh := bf6 hb1 z_r ⟨f_r0, f_r1, f_r2, f_r3, f_r4, f_r5⟩
 clear f_r0 f_r1 f_r2 f_r3 f_r4 f_r5
 obtain ⟨f_r0, f_r1, f_r2, f_r3, f_r4, f_r5⟩ := hh
 replace z_r := blt hb1 z_r
 obtain ⟨a1, k1, rfl, i1, -, y1, -, -⟩ := row_of_owns p1
 obtain ⟨a2, k2, rfl, i2, -, y2, -, -⟩ := row_of_owns p2
 obtain ⟨a3, k3, rfl, i3, -, y3, -, -⟩ := row_of_owns p3
 obtain ⟨a4, k4, rfl, i4, -, y4, -, -⟩ := row_of_owns p4
 have HI := hid (show SlIn w1 ⟨z.seg, z.ws, z.ks, z.vs, z.cs, laid⟩ ⟨a1, a2, a3, a4, k1, k2, k3, k4⟩ from ⟨i1, i2, i3, i4, hzu⟩)
 have HY := hid (And.intro y1 (And.intro y2 (And.intro y3 y4)))
 have HB1 := xv hb1 HB0
 clear p1 p2 p3 p4 i1 i2 i3 i4 y1 y2 y3 y4 hb1 hzu
 go_upto_region 8 with (fail)
 generalize hw2 : w1.alloc (.cells #[.int .i64 z.seg, .slice a1 z.ws.length k1, .slice a2 z.ks.length k2, .slice a3 z.vs.length k3, .slice a4 z.cs.length k4, .int .u64 laid] 29) = w2
 have hh := ec6 hw2 (au6 (⟨c_t0, c_t1, c_t2, c_t3, c_t4, c_t5⟩))
 clear c_t0 c_t1 c_t2 c_t3 c_t4 c_t5
 obtain ⟨c_t0, c_t1, c_t2, c_t3, c_t4, c_t5⟩ := hh
 replace z_t := elt hw2 (auz (z_t))
 have hh := ec6 hw2 (au6 (⟨c_r0, c_r1, c_r2, c_r3, c_r4, c_r5⟩))
 clear c_r0 c_r1 c_r2 c_r3 c_r4 c_r5
 obtain ⟨c_r0, c_r1, c_r2, c_r3, c_r4, c_r5⟩ := hh
 have hh := ef6 hw2 (auf6 z_r ⟨f_r0, f_r1, f_r2, f_r3, f_r4, f_r5⟩)
 clear f_r0 f_r1 f_r2 f_r3 f_r4 f_r5
 obtain ⟨f_r0, f_r1, f_r2, f_r3, f_r4, f_r5⟩ := hh
 replace z_r := elt hw2 (auz (z_r))
 have hh := ec6 hw2 (al6 (b := w1.heap.size) (by simp))
 obtain ⟨c_o0, c_o1, c_o2, c_o3, c_o4, c_o5⟩ := hh
 have z_o := elt hw2 (alz (b := w1.heap.size) (by simp))
 have hb2 : Below w1.heap.size w1 w2 := by rw [← hw2]; exact (Below.refl _ _).alloc (Nat.le_refl _) _
 have HB2 := xv hb2 HB1
 have HC := hid (OV.out w2 ⟨a1, a2, a3, a4, k1, k2, k3, k4⟩ HB2.out (HI.out.below hb2) (fun e => (HY.out.1 e).2) (fun e => (HY.out.2.1 e).2) (fun e => (HY.out.2.2.1 e).2) (fun e => (HY.out.2.2.2 e).2))
 have hz2 := HB2.out.size
 have hz22 := z_r
 clear hw2 hb2
 dsimp only [slV] at HC
 go_wp2_with fail
 refine HC.out.mono ?_
 rintro e w3 ⟨v1, v2, v3, v4, rfl, p1, p2, p3, p4, hb3⟩
 have hz_w3 := hb3.size
 try simp only [World.size_alloc, World.size_setCell] at hz_w3
 have hh := bc6 hb3 ⟨c_t0, c_t1, c_t2, c_t3, c_t4, c_t5⟩
 clear c_t0 c_t1 c_t2 c_t3 c_t4 c_t5
 obtain ⟨c_t0, c_t1, c_t2, c_t3, c_t4, c_t5⟩ := hh
 replace z_t := blt hb3 z_t
 have hh := bc6 hb3 ⟨c_r0, c_r1, c_r2, c_r3, c_r4, c_r5⟩
 clear c_r0 c_r1 c_r2 c_r3 c_r4 c_r5
 obtain ⟨c_r0, c_r1, c_r2, c_r3, c_r4, c_r5⟩ := hh
 have hh := bf6 hb3 z_r ⟨f_r0, f_r1, f_r2, f_r3, f_r4, f_r5⟩
 clear f_r0 f_r1 f_r2 f_r3 f_r4 f_r5
 obtain ⟨f_r0, f_r1, f_r2, f_r3, f_r4, f_r5⟩ := hh
 replace z_r := blt hb3 z_r
 have hh := bc6 hb3 ⟨c_o0, c_o1, c_o2, c_o3, c_o4, c_o5⟩
 clear c_o0 c_o1 c_o2 c_o3 c_o4 c_o5
 obtain ⟨c_o0, c_o1, c_o2, c_o3, c_o4, c_o5⟩ := hh
 replace z_o := blt hb3 z_o
 have HB3 := hid (below_via hb3 HB2.out hz2)
 obtain ⟨x1, y1, rfl, -⟩ := owns_news p1
 obtain ⟨x2, y2, rfl, -⟩ := owns_news p2
 obtain ⟨x3, y3, rfl, -⟩ := owns_news p3
 obtain ⟨x4, y4, rfl, -⟩ := owns_news p4
 have HP1 := hid p1
 have HP2 := hid p2
 have HP3 := hid p3
 have HP4 := hid p4
 clear p1 p2 p3 p4
 clear hb3
 go_wp2
 have HQ : Hid (∀ q, q ≠ w.heap.size + 1 → ((((((w3.setCell ⟨w.heap.size + 1, 0, none⟩ (.int .i64 d.seg)).setCell ⟨w.heap.size + 1, 1, none⟩ (.slice x1 d.ws.length y1)).setCell ⟨w.heap.size + 1, 2, none⟩ (.slice x2 d.ks.length y2)).setCell ⟨w.heap.size + 1, 3, none⟩ (.slice x3 d.vs.length y3)).setCell ⟨w.heap.size + 1, 4, none⟩ (.slice x4 d.cs.length y4)).setCell ⟨w.heap.size + 1, 5, none⟩ (.int .u64 d.laid)).heap[q]? = w3.heap[q]?) := hid fun q hq => by
  rw [heap_setCell_ne _ _ _ hq, heap_setCell_ne _ _ _ hq, heap_setCell_ne _ _ _ hq, heap_setCell_ne _ _ _ hq, heap_setCell_ne _ _ _ hq, heap_setCell_ne _ _ _ hq]
 refine bodyPost_ret (results_ct rfl rfl (run_loadVar_many _ Tryd.underlying29 rfl xk (six_set c_r0 c_r1 c_r2 c_r3 c_r4 c_r5))) rfl ⟨_, _, _, _, rfl, ?_, ?_, ?_, ?_, ?_⟩
 · exact owns_base (owns_heap HP1.out fun j hj => HQ.out _ (by have := (HP1.out.lt j hj).1; omega)) xo
 · exact owns_base (owns_heap HP2.out fun j hj => HQ.out _ (by have := (HP2.out.lt j hj).1; omega)) xo
 · exact owns_base (owns_heap HP3.out fun j hj => HQ.out _ (by have := (HP3.out.lt j hj).1; omega)) xo
 · exact owns_base (owns_heap HP4.out fun j hj => HQ.out _ (by have := (HP4.out.lt j hj).1; omega)) xo
 · exact (((((HB3.out.setCell (by dsimp only; omega) _).setCell (by dsimp only; omega) _).setCell (by dsimp only; omega) _).setCell (by dsimp only; omega) _).setCell (by dsimp only; omega) _).setCell (by dsimp only; omega) _
end
section
open Go.RowKit
end
end Go.Proofs.YtookgoidlnlckaaDoor
