/- Merged: TabFind, TabLv, TabAsk, TabFnd. -/
import Derived.Test.YtjhpblejlchhjaaGreatTabA
namespace Go.Proofs.YtjhpblejlchhjaaGreat
set_option maxRecDepth 100000
set_option maxHeartbeats 4000000
set_option linter.unusedVariables false
set_option linter.unusedSimpArgs false
section
open Go.RowKit Go.Shelf

def isH (gs ps : List Int) (n g : Int) : Bool := decide (0 ≤ n) && decide (n < gs.length) && decide (0 ≤ ps.getD n.toNat 0) && decide (gs.getD n.toNat 0 = g)
theorem isH_facts {gs ps : List Int} {n g : Int} (h : isH gs ps n g = true) : 0 ≤ n ∧ n < gs.length ∧ 0 ≤ ps.getD n.toNat 0 ∧ gs.getD n.toNat 0 = g := by
  simp only [isH, Bool.and_eq_true, decide_eq_true_eq] at h
  exact ⟨h.1.1.1, h.1.1.2, h.1.2, h.2⟩

theorem has_ok (B : Nat) (ga aa : Option Addr) (gc ac : Nat) (gs ps : List Int) (n g : Int) (w : World) (hb0 : w.cell? ⟨B, 0, none⟩ = some (.slice ga gs.length gc)) (hb1 : w.cell? ⟨B, 1, none⟩ = some (.slice aa gs.length ac)) (hg : IsInts w ga gs) (hp : IsInts w aa ps) (hl : ps.length = gs.length) (hlg : gs.length ≤ 1000000000) (hlo : ∀ k, k < gs.length → -1 ≤ ps.getD k 0) :
    Calls Tryz.prog 83 #[.pointer (some ⟨B, 0, none⟩), .agg #[.int .i64 n, .int .i64 g]] w fun e w' => e = .returned (.bool (isH gs ps n g)) ∧ Below w.heap.size w w' := by
  have HB := Lib.hid ((Below.refl _ w).alloc (Nat.le_refl _) (.cells #[.int .i64 n, .int .i64 g] 35))
  have hbl : B < w.heap.size := World.block_lt_of_cell? w _ hb0
  by_cases h1 : 0 ≤ n
  · by_cases h2 : n < gs.length
    · obtain ⟨b2, o2, y, rfl, hy, hcy, hl2⟩ := hp.get (k := n.toNat) (by omega)
      obtain ⟨b1, o1, x, rfl, hx, hcx, hl1⟩ := hg.get (k := n.toNat) (by omega)
      have d1 : decide (0 ≤ n) = true := by simpa using h1
      have d2 : decide (n < gs.length) = true := by simpa using h2
      have hy1 : -1 ≤ y := by rw [← hy.out]; exact hlo _ (by omega)
      have hiv : isH gs ps n g = (decide (0 ≤ y) && decide (x = g)) := by
        rw [isH, d1, d2, hy.out, hx.out]; rfl
      rw [hiv]
      clear hiv hg hp hlo
      by_cases h3 : 0 ≤ y
      · have d3 : decide (0 ≤ y) = true := by simpa using h3
        rw [d3]
        have e3 : (y != -1) = true := by simp; omega
        by_cases h4 : x = g
        · have d4 : decide (x = g) = true := by simpa using h4
          have e4 : (x == g) = true := by simpa using h4
          rw [d4]
          clear d4 h4 hl
          go_enter Tryz.func83, Tryz.ntmps83
          go_wp2
          go_quiet (fail)
          go_wp2
          go_ret
          exact ⟨rfl, below_drewN HB.out _⟩
        · have d4 : decide (x = g) = false := by simpa using h4
          have e4 : (x == g) = false := by simpa using h4
          rw [d4]
          clear d4 h4 hl
          go_enter Tryz.func83, Tryz.ntmps83
          go_wp2
          go_quiet (fail)
          go_wp2
          go_ret
          exact ⟨rfl, below_drewN HB.out _⟩
      · have d3 : decide (0 ≤ y) = false := by simpa using h3
        rw [d3]
        have e3 : (y != -1) = false := by simp; omega
        clear hl h3
        go_enter Tryz.func83, Tryz.ntmps83
        go_wp2
        go_quiet (fail)
        go_wp2
        go_ret
        exact ⟨rfl, below_drewN HB.out _⟩
    · have d1 : decide (0 ≤ n) = true := by simpa using h1
      have d2 : decide (n < gs.length) = false := by simpa using h2
      have hiv : isH gs ps n g = false := by rw [isH, d1, d2]; rfl
      rw [hiv]
      clear hiv hl h2 hg hp
      go_enter Tryz.func83, Tryz.ntmps83
      go_wp2
      go_quiet (fail)
      go_wp2
      go_ret
      exact ⟨rfl, below_drewN HB.out _⟩
  · have d1 : decide (0 ≤ n) = false := by simpa using h1
    have hiv : isH gs ps n g = false := by rw [isH, d1]; rfl
    rw [hiv]
    clear hiv hl h1 hg hp
    go_enter Tryz.func83, Tryz.ntmps83
    go_wp2
    go_quiet (fail)
    go_wp2
    go_ret
    exact ⟨rfl, below_drewN HB.out _⟩
end

section
open Go.RowKit Go.Shelf
attribute [local go_sem] Oper.semAt_some

def cntTo (ps : List Int) : Nat → Nat
  | 0 => 0
  | k + 1 => cntTo ps k + if 0 ≤ ps.getD k 0 then 1 else 0
theorem cntTo_le (ps : List Int) : ∀ k, cntTo ps k ≤ k
  | 0 => Nat.le_refl _
  | k + 1 => by have := cntTo_le ps k; simp only [cntTo]; split <;> omega
theorem cntTo_yes {ps : List Int} {k : Nat} (h : 0 ≤ ps.getD k 0) : cntTo ps (k + 1) = cntTo ps k + 1 := by simp only [cntTo, h, if_pos]
theorem cntTo_no {ps : List Int} {k : Nat} (h : ¬ 0 ≤ ps.getD k 0) : cntTo ps (k + 1) = cntTo ps k := by simp only [cntTo, h, if_false]; rfl
def liveN (gs ps : List Int) : Int := if may gs ps = true then cntTo ps gs.length else 0
theorem liveN_yes {gs ps : List Int} (h : may gs ps = true) : liveN gs ps = cntTo ps gs.length := by simp [liveN, h]
theorem liveN_no {gs ps : List Int} (h : may gs ps = false) : liveN gs ps = 0 := by simp [liveN, h]
theorem may_at {gs ps : List Int} (h : may gs ps = true) {k : Nat} (hk : k < gs.length) : okAt (gs.getD k 0) (ps.getD k 0) = true := by
  simp only [may, Bool.and_eq_true, decide_eq_true_eq] at h
  have h2 := h.2
  rw [okTo, List.all_eq_true] at h2
  exact h2 k (by simpa using hk)
theorem okAt_facts {g a : Int} (h : okAt g a = true) : 0 ≤ g ∧ g ≤ 2147483647 ∧ -1 ≤ a ∧ (0 ≤ a → g < 2147483647) := by
  simp [okAt] at h
  omega

structure LvI (ps : List Int) (B M : Nat) (w : World) (k : Nat) (W : World) : Prop where
  r : W.cell? ⟨B + 1, 0, none⟩ = some (.int .i64 (cntTo ps k))
  f : W.frozen? ⟨B + 1, 0, none⟩ = false
  bel : Below B w W
  sz : M < W.heap.size

theorem Live_ok (ga aa : Option Addr) (gc ac : Nat) (gs ps : List Int) (w : World) (hg : IsInts w ga gs) (hp : IsInts w aa ps) (hlg : gs.length ≤ 1000000000) (hla : ps.length ≤ 1000000000) :
    Calls Tryz.prog 34 #[tabV ga gs.length gc aa ps.length ac] w fun e w' => e = .returned (.tuple #[.int .i64 (liveN gs ps), .int .i64 (mayE gs ps)]) ∧ Below w.heap.size w w' := by
  have HG := Lib.hid hg
  have HP := Lib.hid hp
  by_cases hm : may gs ps = true
  · obtain ⟨h1, h2⟩ := may_len hm
    have hck := fun w' (hb : Below w.heap.size w w') => Check_ok ga aa gc ac gs ps w' (HG.out.below hb) (HP.out.below hb) hlg hla
    rw [mayE_yes hm, liveN_yes hm]
    rw [mayE_yes hm] at hck
    rw [h1] at hck ⊢
    have H1 := Lib.hid h1
    have HM := Lib.hid hm
    have HC := Lib.hid hck
    clear hg hp hlg hla h1 hm hck
    refine calls_of_wp_m Tryz.func34 rfl ?_
    simp only [Tryz.ntmps34, List.size_toArray, List.length_cons, List.length_nil, Nat.reduceAdd, Nat.reduceSub, Array.replicate_succ, Array.replicate_zero, List.push_toArray, List.append_toArray, List.nil_append, List.cons_append]
    go_wp2_with fail
    have hb2 : Below w.heap.size w ((w.alloc (.cells #[.slice ga gs.length gc, .slice aa gs.length ac] 31)).alloc (.cells #[.int .i64 0] 3)) := ((Below.refl _ w).alloc (Nat.le_refl _) _).alloc (by simp) _
    refine (HC.out _ hb2).mono ?_
    rintro e w3 ⟨rfl, hb3⟩
    have hz3 := hb3.size
    rw [World.size_alloc, World.size_alloc] at hz3
    have e0 : w3.cell? ⟨w.heap.size, 0, none⟩ = some (.slice ga gs.length gc) := (hb3.cell (p := ⟨w.heap.size, 0, none⟩) (by simp; omega)).trans (by (exact xcw))
    have e1 : w3.cell? ⟨w.heap.size, 1, none⟩ = some (.slice aa gs.length ac) := (hb3.cell (p := ⟨w.heap.size, 1, none⟩) (by simp; omega)).trans (by (exact xcw))
    have e2 : w3.cell? ⟨w.heap.size + 1, 0, none⟩ = some (.int .i64 0) := (hb3.cell (p := ⟨w.heap.size + 1, 0, none⟩) (by simp)).trans (by (exact xcw))
    have e3 : w3.frozen? ⟨w.heap.size + 1, 0, none⟩ = false := (hb3.frozen (p := ⟨w.heap.size + 1, 0, none⟩) (by simp)).trans (by (exact xcw))
    have hb4 := hb2.trans (hb3.mono (by simp; omega))
    have HB := Lib.hid hb4
    clear hb2 hb3 hb4
    go_wp2_with fail
    refine (numbers_ok _ _ _ _ _ _ _).mono ?_
    rintro e w4 ⟨rfl, rfl⟩
    go_wp2
    refine wp_range_w (xs := tabRows gs ps) (Kp := TabKp ga aa gs ps w3.heap.size) rfl (enters_of Tryz.func90 (by kernel_rfl) rfl)
      (numbers1_iter ga aa gc ac gs ps H1.out h2 w3.heap.size _ ?b0 ?b1 ?ig ?ip) (Below.refl _ _) (fun h k => h.trans k) ?kb ?ps
      (LvI ps w.heap.size w3.heap.size w) (fun _ _ => False) ?hI (fun _ _ _ h _ => h) ?h0 ?round ?done (fun _ _ _ _ h _ => h.elim)
    case b0 => (exact xcw)
    case b1 => (exact xcw)
    case ig => exact (HG.out.below HB.out).below ((Below.refl _ _).alloc (Nat.le_refl _) _)
    case ip => exact (HP.out.below HB.out).below ((Below.refl _ _).alloc (Nat.le_refl _) _)
    case kb =>
      intro W l o o' hl ho hc
      simp at hl
      have hcalm := Calm.putObj (B := 0) o' (Nat.zero_le _) ho hc
      exact ⟨World.putObj_heap_other (by omega), hcalm.ints, hcalm.ints⟩
    case ps =>
      intro y hy
      simp only [tabRows, List.mem_map] at hy
      obtain ⟨k, _, rfl⟩ := hy
      rfl
    case hI =>
      intro k W W' hi hc
      exact ⟨hc.cell hi.r, hc.frozen hi.r hi.f, hc.below (by simp; omega) hi.bel, Nat.lt_of_lt_of_le hi.sz hc.size⟩
    case h0 =>
      exact ⟨by rw [World.cell?_alloc_past _ _ _ (by omega)]; exact e2, by rw [World.frozen?_alloc_past _ _ _ (by omega)]; exact e3, HB.out.alloc (by omega) _, by simp⟩
    case round =>
      intro l k W hl hk hi
      rw [tabRows_length] at hk
      rw [tabRows_get hk, tabRow]
      obtain ⟨x, hx⟩ : ∃ x, gs.getD k 0 = x := ⟨_, rfl⟩
      obtain ⟨y, hy⟩ : ∃ y, ps.getD k 0 = y := ⟨_, rfl⟩
      have hok := okAt_facts (may_at HM.out hk)
      rw [hx, hy] at hok ⊢
      have hcl := cntTo_le ps k
      have HX := Lib.hid hx
      have HY := Lib.hid hy
      have HI := Lib.hid hi
      clear hx hy hi
      gi_wp2
      have hbz := HI.out.bel.size
      have hWb := HI.out.sz
      have hab : Below W.heap.size W (W.alloc (.cells #[.int .i64 x, .int .i64 y] 108)) := (Below.refl _ _).alloc (Nat.le_refl _) _
      refine ⟨keeps_below hab, TabKp.below hab hWb, ?_⟩
      intro W2 hc
      have hcy : W2.cell? ⟨W.heap.size, 1, none⟩ = some (.int .i64 y) := hc.cell (by (exact xcw))
      have hv0 : (W.alloc (.cells #[.int .i64 x, .int .i64 y] 108)).cell? ⟨w.heap.size + 1, 0, none⟩ = some (.int .i64 (cntTo ps k)) := by
        rw [World.cell?_alloc_past _ _ _ (by omega)]; exact HI.out.r
      have hv : W2.cell? ⟨w.heap.size + 1, 0, none⟩ = some (.int .i64 (cntTo ps k)) := hc.cell hv0
      have hf : W2.frozen? ⟨w.heap.size + 1, 0, none⟩ = false := by
        refine hc.frozen hv0 ?_
        rw [World.frozen?_alloc_past _ _ _ (by omega)]; exact HI.out.f
      have bel2 : Below w.heap.size w W2 := hc.below (by simp; omega) (HI.out.bel.alloc (by omega) _)
      have hsz : w3.heap.size < W2.heap.size := by have := hc.size; simp at this; omega
      have BE := Lib.hid bel2
      clear hbz hab hc hv0 bel2
      by_cases c0 : y = -1
      · subst c0
        have hcn : cntTo ps (k + 1) = cntTo ps k := cntTo_no (by rw [HY.out]; decide)
        have HN := Lib.hid hcn
        clear hcn
        gi_wp2
        exact ⟨KeepsOthers.refl _, TabKp.refl, by rw [HN.out]; exact hv, hf, BE.out, hsz⟩
      · have c0' : (y != -1) = true := by simpa using c0
        have hcn : cntTo ps (k + 1) = cntTo ps k + 1 := cntTo_yes (by rw [HY.out]; omega)
        have HN := Lib.hid hcn
        clear hcn c0
        gi_wp2
        have hbel3 : Below w.heap.size w (W2.setCell ⟨w.heap.size + 1, 0, none⟩ (.int .i64 ((cntTo ps k : Nat) + 1 : Int))) := BE.out.setCell (by show w.heap.size ≤ w.heap.size + 1; omega) _
        refine ⟨KeepsOthers.setCell _ _ _, ⟨?_, fun _ => HG.out.below hbel3, fun _ => HP.out.below hbel3⟩, ?_, ?_, hbel3, by simpa using hsz⟩
        · exact heap_setCell_ne _ _ _ (by show w3.heap.size ≠ w.heap.size + 1; omega)
        · rw [World.cell?_setCell_same _ _ _ hv, HN.out]; rfl
        · simpa using hf
    case done =>
      intro D W hD hi hK
      obtain ⟨hr, hf, hbel, hsz⟩ := hi
      rw [tabRows_length] at hr
      have HBL := Lib.hid hbel
      clear hbel
      go_wp2
      have hK2 : (W.setCell ⟨w.heap.size + 1, 0, none⟩ (.int .i64 (cntTo ps gs.length))).heap[D]? = some (.deferred (some [])) := (KeepsOthers.setCell _ _ _).same _ _ hK rfl
      have hcalm := Calm.putObj (B := w.heap.size) (.deferred none) (by simp at hD; omega) hK2 rfl
      exact postM_one hK2 (results_ct rfl rfl (run_loadVar_one Tryz.underlying3 rfl (hcalm.cell (World.cell?_setCell_same _ _ _ hr)))) ⟨rfl, hcalm.below (Nat.le_refl _) (HBL.out.setCell (by show w.heap.size ≤ w.heap.size + 1; omega) _)⟩
  · have hm' : may gs ps = false := by simpa using hm
    have hck := fun w' (hb : Below w.heap.size w w') => Check_ok ga aa gc ac gs ps w' (HG.out.below hb) (HP.out.below hb) hlg hla
    rw [mayE_no hm', liveN_no hm']
    rw [mayE_no hm'] at hck
    have HC := Lib.hid hck
    clear hg hp hm hm' hck
    refine calls_of_wp_m Tryz.func34 rfl ?_
    simp only [Tryz.ntmps34, List.size_toArray, List.length_cons, List.length_nil, Nat.reduceAdd, Nat.reduceSub, Array.replicate_succ, Array.replicate_zero, List.push_toArray, List.append_toArray, List.nil_append, List.cons_append]
    go_wp2_with fail
    have hb2 : Below w.heap.size w ((w.alloc (.cells #[.slice ga gs.length gc, .slice aa ps.length ac] 31)).alloc (.cells #[.int .i64 0] 3)) := ((Below.refl _ w).alloc (Nat.le_refl _) _).alloc (by simp) _
    refine (HC.out _ hb2).mono ?_
    rintro e w3 ⟨rfl, hb3⟩
    have hz3 := hb3.size
    rw [World.size_alloc, World.size_alloc] at hz3
    have e2 : w3.cell? ⟨w.heap.size + 1, 0, none⟩ = some (.int .i64 0) := (hb3.cell (p := ⟨w.heap.size + 1, 0, none⟩) (by simp)).trans (by (exact xcw))
    have e3 : w3.frozen? ⟨w.heap.size + 1, 0, none⟩ = false := (hb3.frozen (p := ⟨w.heap.size + 1, 0, none⟩) (by simp)).trans (by (exact xcw))
    have hb4 := hb2.trans (hb3.mono (by simp; omega))
    have HB := Lib.hid hb4
    clear hb2 hb3 hb4
    go_wp2
    exact postM_none (results_ct rfl rfl (run_loadVar_one Tryz.underlying3 rfl (World.cell?_setCell_same _ _ _ e2))) ⟨rfl, HB.out.setCell (by show w.heap.size ≤ w.heap.size + 1; omega) _⟩

theorem Live14_ok (ga aa : Option Addr) (gc ac : Nat) (gs ps : List Int) (w : World) (hg : IsInts w ga gs) (hp : IsInts w aa ps) (hlg : gs.length ≤ 1000000000) (hla : ps.length ≤ 1000000000) :
    Calls Tryz.prog 64 #[tabV ga gs.length gc aa ps.length ac] w fun e w' => e = .returned (.tuple #[.int .i64 (liveN gs ps), .int .i64 (mayE gs ps)]) ∧ Below w.heap.size w w' := by
  have HG := Lib.hid hg
  have HP := Lib.hid hp
  have hab : Below w.heap.size w (w.alloc (.cells #[.slice ga gs.length gc, .slice aa ps.length ac] 31)) := (Below.refl _ w).alloc (Nat.le_refl _) _
  have hmy := May_ok ga aa gc ac gs ps _ (HG.out.below hab) (HP.out.below hab) hlg hla
  by_cases hm : may gs ps = true
  · obtain ⟨h1, h2⟩ := may_len hm
    rw [mayE_yes hm, liveN_yes hm]
    rw [hm] at hmy
    rw [h1] at hmy hab ⊢
    have H1 := Lib.hid h1
    have HM := Lib.hid hm
    have HC := Lib.hid hmy
    clear hg hp hlg hla h1 hm hmy
    go_enter Tryz.func64, Tryz.ntmps64
    go_wp2_with fail
    refine HC.out.mono ?_
    rintro e w3 ⟨rfl, hb3⟩
    have hz3 := hb3.size
    rw [World.size_alloc] at hz3
    have e1 : w3.cell? ⟨w.heap.size, 1, none⟩ = some (.slice aa gs.length ac) := (hb3.cell (p := ⟨w.heap.size, 1, none⟩) (by simp)).trans (by (exact xcw))
    have hb4 := hab.trans (hb3.mono (by simp))
    have HB := Lib.hid hb4
    have HQ := Lib.hid (HP.out.below hb4)
    clear hab hb3 hb4
    go_wp2
    go_loopg [4, 5] gs.length (fun g n i wr => ∃ k : Nat, k + g = gs.length ∧ i = .int .i64 k ∧ n = .int .i64 (cntTo ps k) ∧ wr = w3)
    case atStart => exact ⟨0, by omega, rfl, rfl, rfl⟩
    case round =>
      obtain ⟨k, hk, rfl, rfl, rfl⟩ := hrel
      by_cases hlt : k < gs.length
      · obtain ⟨b2, o2, y, rfl, hy, hcy, hl2⟩ := HQ.out.get (k := k) (by rw [H1.out]; exact hlt)
        have hcl := cntTo_le ps k
        by_cases c0 : 0 ≤ y
        · have HN := Lib.hid (cntTo_yes (ps := ps) (k := k) (by rw [hy.out]; exact c0))
          go_wp2
          go_roundg (gk - 1)
          case measure => omega
          case rel => exact ⟨k + 1, by omega, by go_num, by rw [HN.out]; rfl, rfl⟩
        · have HN := Lib.hid (cntTo_no (ps := ps) (k := k) (by rw [hy.out]; exact c0))
          go_wp2
          go_roundg (gk - 1)
          case measure => omega
          case rel => exact ⟨k + 1, by omega, by go_num, by rw [HN.out], rfl⟩
      · obtain rfl : k = gs.length := by omega
        go_wp2
        go_ret2
        exact ⟨rfl, HB.out⟩
  · have hm' : may gs ps = false := by simpa using hm
    rw [mayE_no hm', liveN_no hm']
    rw [hm'] at hmy
    have HC := Lib.hid hmy
    clear hg hp hm hm' hmy
    go_enter Tryz.func64, Tryz.ntmps64
    go_wp2_with fail
    refine HC.out.mono ?_
    rintro e w3 ⟨rfl, hb3⟩
    go_wp2
    go_ret2
    exact ⟨rfl, hab.trans (hb3.mono (by simp))⟩
end

section
open Go.RowKit Go.Shelf

def Asked (w : World) (gs ps : List Int) (e : Ending) (w' : World) : Prop :=
  ∃ B v u, e = .returned (.tuple #[.pointer (some ⟨B, 0, none⟩), .int .i64 0]) ∧ w.heap.size ≤ B ∧ w'.heap[B]? = some (.cells #[v, u] 101) ∧
    w'.ownsRow w.heap.size 3 1 v gs.length (gs.map (Value.int .i64)) ∧ w'.ownsRow w.heap.size 3 1 u ps.length (ps.map (Value.int .i64)) ∧
    (∀ k l, v.ownBlock = some k → u.ownBlock = some l → k ≠ l) ∧ Below w.heap.size w w'

theorem tasked_ok (ga aa : Option Addr) (gc ac : Nat) (gs ps : List Int) (n g at_ : Int) (w : World) (hg : IsInts w ga gs) (hp : IsInts w aa ps) (hm : may gs ps = true) (ht : 0 ≤ at_) (hi : isH gs ps n g = true) :
    Calls Tryz.prog 54 #[tabV ga gs.length gc aa ps.length ac, .agg #[.int .i64 n, .int .i64 g], .int .i64 at_] w (Asked w gs ps) := by
  obtain ⟨h1, h2⟩ := may_len hm
  rw [h1]
  have HG := Lib.hid hg
  have HP := Lib.hid hp
  have HB := Lib.hid ((((Below.refl _ w).alloc (Nat.le_refl _) (.cells #[.slice ga gs.length gc, .slice aa gs.length ac] 31)).alloc (by simp) (.cells #[.int .i64 n, .int .i64 g] 35)))
  have HC := Lib.hid (fun w' (hb : Below w.heap.size w w') => Check_ok ga aa gc ac gs ps w' (HG.out.below hb) (HP.out.below hb) (by omega) (by omega))
  rw [mayE_yes hm, h1] at HC
  have HT := Lib.hid (fun w' (hb : Below w.heap.size w w') => Twin_ok ga aa gc ac gs ps w' (HG.out.below hb) (HP.out.below hb) h2 (by omega))
  rw [h1] at HT
  have H1 := Lib.hid h1
  have HM := Lib.hid hm
  have HI := Lib.hid hi
  clear hg hp hm hi h1
  go_enter Tryz.func54, Tryz.ntmps54
  go_wp2_with fail
  refine (HC.out _ HB.out).mono ?_
  rintro e w3 ⟨rfl, hb3⟩
  have hz3 := hb3.size
  rw [World.size_alloc, World.size_alloc] at hz3
  have e0 : w3.cell? ⟨w.heap.size, 0, none⟩ = some (.slice ga gs.length gc) := (hb3.cell (p := ⟨w.heap.size, 0, none⟩) (by simp; omega)).trans (by (exact xcw))
  have e1 : w3.cell? ⟨w.heap.size, 1, none⟩ = some (.slice aa gs.length ac) := (hb3.cell (p := ⟨w.heap.size, 1, none⟩) (by simp; omega)).trans (by (exact xcw))
  have e2 : w3.cell? ⟨w.heap.size + 1, 0, none⟩ = some (.int .i64 n) := (hb3.cell (p := ⟨w.heap.size + 1, 0, none⟩) (by simp)).trans (by (exact xcw))
  have e3 : w3.cell? ⟨w.heap.size + 1, 1, none⟩ = some (.int .i64 g) := (hb3.cell (p := ⟨w.heap.size + 1, 1, none⟩) (by simp)).trans (by (exact xcw))
  have HB3 := Lib.hid (HB.out.trans (hb3.mono (by simp; omega)))
  clear hb3
  go_wp2_with fail
  refine (HT.out _ HB3.out).mono ?_
  rintro e w4 ⟨v, u, rfl, hov, hou, hne, hb4⟩
  have hz4 := hb4.size
  have i2 : w4.cell? ⟨w.heap.size + 1, 0, none⟩ = some (.int .i64 n) := (hb4.cell (p := ⟨w.heap.size + 1, 0, none⟩) (by show w.heap.size + 1 < w3.heap.size; omega)).trans e2
  have i3 : w4.cell? ⟨w.heap.size + 1, 1, none⟩ = some (.int .i64 g) := (hb4.cell (p := ⟨w.heap.size + 1, 1, none⟩) (by show w.heap.size + 1 < w3.heap.size; omega)).trans e3
  have il : w.heap.size + 1 < w4.heap.size := by omega
  have HB4 := Lib.hid (HB3.out.trans (hb4.mono (by omega)))
  obtain ⟨va, vc, rfl, hiv, _⟩ := ints_of_owns hov
  obtain ⟨ua, uc, rfl, hiu, _⟩ := ints_of_owns hou
  rw [H1.out] at hou
  rw [H1.out]
  have hO := And.intro hov (And.intro hou hne)
  have HO := Lib.hid hO
  have hc0 : ((w4.alloc (.cells #[.slice va gs.length vc, .slice ua gs.length uc] 101))).cell? ⟨w4.heap.size, 0, none⟩ = some (.slice va gs.length vc) := by (exact xcw)
  have hc1 : ((w4.alloc (.cells #[.slice va gs.length vc, .slice ua gs.length uc] 101))).cell? ⟨w4.heap.size, 1, none⟩ = some (.slice ua gs.length uc) := by (exact xcw)
  have hh := has_ok w4.heap.size va ua vc uc gs ps n g _ hc0 hc1 (hiv.alloc _) (hiu.alloc _) H1.out (by omega) (fun k hk => (okAt_facts (may_at HM.out hk)).2.2.1)
  rw [HI.out] at hh
  have HH := Lib.hid hh
  clear hh hc0 hc1 hO hov hou hne hiv hiu hb4
  go_wp2_with fail
  refine HH.out.mono ?_
  rintro e w5 ⟨rfl, hb5⟩
  have HB5 := Lib.hid hb5
  clear hb5
  go_wp2
  go_ret2
  obtain ⟨hov, hou, hne⟩ := HO.out
  have hb5 := HB5.out
  have hz5 := hb5.size
  rw [World.size_alloc] at hz5
  refine ⟨w4.heap.size, .slice va gs.length vc, .slice ua gs.length uc, rfl, by omega, ?_, ?_, ?_, ?_, ?_⟩
  · exact (hb5.block _ (by simp)).trans (World.alloc_heap_new _ _)
  · exact owns_below (owns_base (hov.alloc _) (by omega)) hb5
  · rw [H1.out]; exact owns_below (owns_base (hou.alloc _) (by omega)) hb5
  · intro k l h1 h2; exact hne k l h1 (by rw [H1.out]; exact h2)
  · exact (HB4.out.alloc (by omega) _).trans (hb5.mono (by simp; omega))

def AskNo (w : World) (x : Int) (e : Ending) (w' : World) : Prop := e = .returned (.tuple #[.pointer none, .int .i64 x]) ∧ Below w.heap.size w w'

theorem tasked_bad (ga aa : Option Addr) (gc ac : Nat) (gs ps : List Int) (n g at_ : Int) (w : World) (hg : IsInts w ga gs) (hp : IsInts w aa ps) (hm : may gs ps = false) (hlg : gs.length ≤ 1000000000) (hla : ps.length ≤ 1000000000) :
    Calls Tryz.prog 54 #[tabV ga gs.length gc aa ps.length ac, .agg #[.int .i64 n, .int .i64 g], .int .i64 at_] w (AskNo w 8) := by
  have HG := Lib.hid hg
  have HP := Lib.hid hp
  have HB := Lib.hid ((((Below.refl _ w).alloc (Nat.le_refl _) (.cells #[.slice ga gs.length gc, .slice aa ps.length ac] 31)).alloc (by simp) (.cells #[.int .i64 n, .int .i64 g] 35)))
  have HC := Lib.hid (fun w' (hb : Below w.heap.size w w') => Check_ok ga aa gc ac gs ps w' (HG.out.below hb) (HP.out.below hb) hlg hla)
  rw [mayE_no hm] at HC
  clear hg hp hm
  go_enter Tryz.func54, Tryz.ntmps54
  go_wp2_with fail
  refine (HC.out _ HB.out).mono ?_
  rintro e w3 ⟨rfl, hb3⟩
  go_wp2
  go_ret2
  exact ⟨rfl, HB.out.trans (hb3.mono (by simp; omega))⟩
theorem tasked_not (ga aa : Option Addr) (gc ac : Nat) (gs ps : List Int) (n g at_ : Int) (w : World) (hg : IsInts w ga gs) (hp : IsInts w aa ps) (hm : may gs ps = true) (ht : 0 ≤ at_) (hi : isH gs ps n g = false) :
    Calls Tryz.prog 54 #[tabV ga gs.length gc aa ps.length ac, .agg #[.int .i64 n, .int .i64 g], .int .i64 at_] w (AskNo w 140) := by
  obtain ⟨h1, h2⟩ := may_len hm
  rw [h1]
  have HG := Lib.hid hg
  have HP := Lib.hid hp
  have HB := Lib.hid ((((Below.refl _ w).alloc (Nat.le_refl _) (.cells #[.slice ga gs.length gc, .slice aa gs.length ac] 31)).alloc (by simp) (.cells #[.int .i64 n, .int .i64 g] 35)))
  have HC := Lib.hid (fun w' (hb : Below w.heap.size w w') => Check_ok ga aa gc ac gs ps w' (HG.out.below hb) (HP.out.below hb) (by omega) (by omega))
  rw [mayE_yes hm, h1] at HC
  have HT := Lib.hid (fun w' (hb : Below w.heap.size w w') => Twin_ok ga aa gc ac gs ps w' (HG.out.below hb) (HP.out.below hb) h2 (by omega))
  rw [h1] at HT
  have H1 := Lib.hid h1
  have HM := Lib.hid hm
  have HI := Lib.hid hi
  clear hg hp hm hi h1
  go_enter Tryz.func54, Tryz.ntmps54
  go_wp2_with fail
  refine (HC.out _ HB.out).mono ?_
  rintro e w3 ⟨rfl, hb3⟩
  have hz3 := hb3.size
  rw [World.size_alloc, World.size_alloc] at hz3
  have e0 : w3.cell? ⟨w.heap.size, 0, none⟩ = some (.slice ga gs.length gc) := (hb3.cell (p := ⟨w.heap.size, 0, none⟩) (by simp; omega)).trans (by (exact xcw))
  have e1 : w3.cell? ⟨w.heap.size, 1, none⟩ = some (.slice aa gs.length ac) := (hb3.cell (p := ⟨w.heap.size, 1, none⟩) (by simp; omega)).trans (by (exact xcw))
  have e2 : w3.cell? ⟨w.heap.size + 1, 0, none⟩ = some (.int .i64 n) := (hb3.cell (p := ⟨w.heap.size + 1, 0, none⟩) (by simp)).trans (by (exact xcw))
  have e3 : w3.cell? ⟨w.heap.size + 1, 1, none⟩ = some (.int .i64 g) := (hb3.cell (p := ⟨w.heap.size + 1, 1, none⟩) (by simp)).trans (by (exact xcw))
  have HB3 := Lib.hid (HB.out.trans (hb3.mono (by simp; omega)))
  clear hb3
  go_wp2_with fail
  refine (HT.out _ HB3.out).mono ?_
  rintro e w4 ⟨v, u, rfl, hov, hou, hne, hb4⟩
  have hz4 := hb4.size
  have i2 : w4.cell? ⟨w.heap.size + 1, 0, none⟩ = some (.int .i64 n) := (hb4.cell (p := ⟨w.heap.size + 1, 0, none⟩) (by show w.heap.size + 1 < w3.heap.size; omega)).trans e2
  have i3 : w4.cell? ⟨w.heap.size + 1, 1, none⟩ = some (.int .i64 g) := (hb4.cell (p := ⟨w.heap.size + 1, 1, none⟩) (by show w.heap.size + 1 < w3.heap.size; omega)).trans e3
  have il : w.heap.size + 1 < w4.heap.size := by omega
  have HB4 := Lib.hid (HB3.out.trans (hb4.mono (by omega)))
  obtain ⟨va, vc, rfl, hiv, _⟩ := ints_of_owns hov
  obtain ⟨ua, uc, rfl, hiu, _⟩ := ints_of_owns hou
  rw [H1.out] at hou
  rw [H1.out]
  have hO := And.intro hov (And.intro hou hne)
  have HO := Lib.hid hO
  have hc0 : ((w4.alloc (.cells #[.slice va gs.length vc, .slice ua gs.length uc] 101))).cell? ⟨w4.heap.size, 0, none⟩ = some (.slice va gs.length vc) := by (exact xcw)
  have hc1 : ((w4.alloc (.cells #[.slice va gs.length vc, .slice ua gs.length uc] 101))).cell? ⟨w4.heap.size, 1, none⟩ = some (.slice ua gs.length uc) := by (exact xcw)
  have hh := has_ok w4.heap.size va ua vc uc gs ps n g _ hc0 hc1 (hiv.alloc _) (hiu.alloc _) H1.out (by omega) (fun k hk => (okAt_facts (may_at HM.out hk)).2.2.1)
  rw [HI.out] at hh
  have HH := Lib.hid hh
  clear hh hc0 hc1 hO hov hou hne hiv hiu hb4
  go_wp2_with fail
  refine HH.out.mono ?_
  rintro e w5 ⟨rfl, hb5⟩
  have HB5 := Lib.hid hb5
  clear hb5
  go_wp2
  go_ret2
  have hb5 := HB5.out
  exact ⟨rfl, (HB4.out.alloc (by omega) _).trans (hb5.mono (by simp; omega))⟩

end

section
open Go.RowKit Go.Shelf

def tfindV (gs ps : List Int) (n g : Int) : Int := if may gs ps = true ∧ isH gs ps n g = true then ps.getD n.toNat 0 else 0
def tfindE (gs ps : List Int) (n g : Int) : Int := if may gs ps = true then (if isH gs ps n g = true then 0 else 140) else 8
def FindR (w : World) (gs ps : List Int) (n g : Int) (e : Ending) (w' : World) : Prop := e = .returned (.tuple #[.int .i64 (tfindV gs ps n g), .int .i64 (tfindE gs ps n g)]) ∧ Below w.heap.size w w'

theorem Find_ok (ga aa : Option Addr) (gc ac : Nat) (gs ps : List Int) (n g : Int) (w : World) (hg : IsInts w ga gs) (hp : IsInts w aa ps) (hlg : gs.length ≤ 1000000000) (hla : ps.length ≤ 1000000000) :
    Calls Tryz.prog 32 #[tabV ga gs.length gc aa ps.length ac, .agg #[.int .i64 n, .int .i64 g]] w (FindR w gs ps n g) := by
  have HB := Lib.hid ((((Below.refl _ w).alloc (Nat.le_refl _) (.cells #[.slice ga gs.length gc, .slice aa ps.length ac] 31)).alloc (by simp) (.cells #[.int .i64 n, .int .i64 g] 35)))
  by_cases hm : may gs ps = true
  · by_cases hi : isH gs ps n g = true
    · have hA := tasked_ok ga aa gc ac gs ps n g 0 _ (hg.below HB.out) (hp.below HB.out) hm (Int.le_refl _) hi
      obtain ⟨f1, f2, f3, f4⟩ := isH_facts hi
      have h1 := (may_len hm).1
      have HA := Lib.hid hA
      have hv : tfindV gs ps n g = ps.getD n.toNat 0 := by simp [tfindV, hm, hi]
      have he : tfindE gs ps n g = 0 := by simp [tfindE, hm, hi]
      have HV := Lib.hid hv
      have HE := Lib.hid he
      have H1 := Lib.hid h1
      clear hA hm hi hv he hg hp f3 f4 h1
      go_enter Tryz.func32, Tryz.ntmps32
      go_wp2_with fail
      refine HA.out.mono ?_
      rintro e w3 ⟨B, v, u, rfl, hBz, hcells, hov, hou, hne, hb3⟩
      have hz3 := hb3.size
      rw [World.size_alloc, World.size_alloc] at hz3
      have e2 : w3.cell? ⟨w.heap.size + 1, 0, none⟩ = some (.int .i64 n) := (hb3.cell (p := ⟨w.heap.size + 1, 0, none⟩) (by simp)).trans (by (exact xcw))
      have c1 : w3.cell? ⟨B, 1, none⟩ = some u := by simp [World.cell?, hcells]
      obtain ⟨ua, uc, rfl, hiu, _⟩ := ints_of_owns hou
      obtain ⟨b1, o1, y, rfl, hy, hcy, _⟩ := hiu.get (k := n.toNat) (by have := H1.out; omega)
      have hlen : n < (ps.length : Int) := by have := H1.out; omega
      have HB3 := Lib.hid (HB.out.trans (hb3.mono (by simp; omega)))
      clear hcells hov hou hne hb3 hiu
      go_wp2
      go_quiet (fail)
      go_wp2
      go_ret2
      exact ⟨by rw [HV.out, HE.out, hy.out]; rfl, below_drewN HB3.out _⟩
    · have hi' : isH gs ps n g = false := by simpa using hi
      have hA := tasked_not ga aa gc ac gs ps n g 0 _ (hg.below HB.out) (hp.below HB.out) hm (Int.le_refl _) hi'
      have HA := Lib.hid hA
      have HV := Lib.hid (show tfindV gs ps n g = 0 by simp [tfindV, hi])
      have HE := Lib.hid (show tfindE gs ps n g = 140 by simp [tfindE, hm, hi])
      clear hA hm hi hi' hg hp
      go_enter Tryz.func32, Tryz.ntmps32
      go_wp2_with fail
      refine HA.out.mono ?_
      rintro e w3 ⟨rfl, hb3⟩
      go_wp2
      go_ret2
      exact ⟨by rw [HV.out, HE.out]; rfl, HB.out.trans (hb3.mono (by simp; omega))⟩
  · have hm' : may gs ps = false := by simpa using hm
    have hA := tasked_bad ga aa gc ac gs ps n g 0 _ (hg.below HB.out) (hp.below HB.out) hm' hlg hla
    have HA := Lib.hid hA
    have HV := Lib.hid (show tfindV gs ps n g = 0 by simp [tfindV, hm])
    have HE := Lib.hid (show tfindE gs ps n g = 8 by simp [tfindE, hm])
    clear hA hm hm' hg hp
    go_enter Tryz.func32, Tryz.ntmps32
    go_wp2_with fail
    refine HA.out.mono ?_
    rintro e w3 ⟨rfl, hb3⟩
    go_wp2
    go_ret2
    exact ⟨by rw [HV.out, HE.out]; rfl, HB.out.trans (hb3.mono (by simp; omega))⟩

end
end Go.Proofs.YtjhpblejlchhjaaGreat
