/- Walks of Live: the program's and the reference's. -/
import Derived.Test.YtonmgmhkejbikaaTabCk
namespace Go.Proofs.Ytonmgmhkejbikaa
open Go.RowKit Go.Shelf
attribute [local go_sem] Oper.semAt_some
set_option linter.unusedVariables false
set_option linter.unusedSimpArgs false

/-- how many of the first are given out -/
def cntTo (ps : List Int) : Nat → Nat
  | 0 => 0
  | k + 1 => cntTo ps k + if 0 ≤ ps.getD k 0 then 1 else 0
theorem cntTo_le (ps : List Int) : ∀ k, cntTo ps k ≤ k
  | 0 => Nat.le_refl _
  | k + 1 => by have := cntTo_le ps k; simp only [cntTo]; split <;> omega
theorem cntTo_yes {ps : List Int} {k : Nat} (h : 0 ≤ ps.getD k 0) : cntTo ps (k + 1) = cntTo ps k + 1 := by simp only [cntTo, h, if_pos]
theorem cntTo_no {ps : List Int} {k : Nat} (h : ¬ 0 ≤ ps.getD k 0) : cntTo ps (k + 1) = cntTo ps k := by simp only [cntTo, h, if_false]; rfl
def liveN (gs ps : List Int) : Int := if may gs ps = true then cntTo ps gs.length else 0
theorem liveN_yes {gs ps : List Int} (h : may gs ps = true) : liveN gs ps = cntTo ps gs.length := by simp [liveN, h]
theorem liveN_no {gs ps : List Int} (h : may gs ps = false) : liveN gs ps = 0 := by simp [liveN, h]
theorem may_at {gs ps : List Int} (h : may gs ps = true) {k : Nat} (hk : k < gs.length) : okAt (gs.getD k 0) (ps.getD k 0) = true := by
  simp only [may, Bool.and_eq_true, decide_eq_true_eq] at h
  have h2 := h.2
  rw [okTo, List.all_eq_true] at h2
  exact h2 k (by simpa using hk)
theorem okAt_facts {g a : Int} (h : okAt g a = true) : 0 ≤ g ∧ g ≤ 2147483647 ∧ -1 ≤ a ∧ (0 ≤ a → g < 2147483647) := by
  simp [okAt] at h
  omega

structure LvI (ps : List Int) (B M : Nat) (w : World) (k : Nat) (W : World) : Prop where
  r : W.cell? ⟨B + 1, 0, none⟩ = some (.int .i64 (cntTo ps k))
  f : W.frozen? ⟨B + 1, 0, none⟩ = false
  bel : Below B w W
  sz : M < W.heap.size

set_option maxHeartbeats 1000000 in
theorem Live_ok (ga aa : Option Addr) (gc ac : Nat) (gs ps : List Int) (w : World) (hg : IsInts w ga gs) (hp : IsInts w aa ps) (hlg : gs.length ≤ 1000000000) (hla : ps.length ≤ 1000000000) :
    Calls Try.prog 11 #[tabV ga gs.length gc aa ps.length ac] w fun e w' => e = .returned (.tuple #[.int .i64 (liveN gs ps), .int .i64 (mayE gs ps)]) ∧ Below w.heap.size w w' := by
  have HG := Lib.hid hg
  have HP := Lib.hid hp
  by_cases hm : may gs ps = true
  · obtain ⟨h1, h2⟩ := may_len hm
    have hck := fun w' (hb : Below w.heap.size w w') => Check_ok ga aa gc ac gs ps w' (HG.out.below hb) (HP.out.below hb) hlg hla
    rw [mayE_yes hm, liveN_yes hm]
    rw [mayE_yes hm] at hck
    rw [h1] at hck ⊢
    have H1 := Lib.hid h1
    have HM := Lib.hid hm
    have HC := Lib.hid hck
    clear hg hp hlg hla h1 hm hck
    refine calls_of_wp_m Try.func11 rfl ?_
    simp only [Try.ntmps11, List.size_toArray, List.length_cons, List.length_nil, Nat.reduceAdd, Nat.reduceSub, Array.replicate_succ, Array.replicate_zero, List.push_toArray, List.append_toArray, List.nil_append, List.cons_append]
    go_wp2_with fail
    have hb2 : Below w.heap.size w ((w.alloc (.cells #[.slice ga gs.length gc, .slice aa gs.length ac] 24)).alloc (.cells #[.int .i64 0] 3)) := ((Below.refl _ w).alloc (Nat.le_refl _) _).alloc (by simp) _
    refine (HC.out _ hb2).mono ?_
    rintro e w3 ⟨rfl, hb3⟩
    have hz3 := hb3.size
    rw [World.size_alloc, World.size_alloc] at hz3
    have e0 : w3.cell? ⟨w.heap.size, 0, none⟩ = some (.slice ga gs.length gc) := (hb3.cell (p := ⟨w.heap.size, 0, none⟩) (by simp; omega)).trans (by ((try simp (disch := first | omega | (simp only [World.size_alloc] <;> omega) | fail) only [World.cell?_alloc_past, World.cell?_alloc_at, World.frozen?_alloc_past, World.frozen?_alloc_at]) <;> rfl))
    have e1 : w3.cell? ⟨w.heap.size, 1, none⟩ = some (.slice aa gs.length ac) := (hb3.cell (p := ⟨w.heap.size, 1, none⟩) (by simp; omega)).trans (by ((try simp (disch := first | omega | (simp only [World.size_alloc] <;> omega) | fail) only [World.cell?_alloc_past, World.cell?_alloc_at, World.frozen?_alloc_past, World.frozen?_alloc_at]) <;> rfl))
    have e2 : w3.cell? ⟨w.heap.size + 1, 0, none⟩ = some (.int .i64 0) := (hb3.cell (p := ⟨w.heap.size + 1, 0, none⟩) (by simp)).trans (by ((try simp (disch := first | omega | (simp only [World.size_alloc] <;> omega) | fail) only [World.cell?_alloc_past, World.cell?_alloc_at, World.frozen?_alloc_past, World.frozen?_alloc_at]) <;> rfl))
    have e3 : w3.frozen? ⟨w.heap.size + 1, 0, none⟩ = false := (hb3.frozen (p := ⟨w.heap.size + 1, 0, none⟩) (by simp)).trans (by ((try simp (disch := first | omega | (simp only [World.size_alloc] <;> omega) | fail) only [World.cell?_alloc_past, World.cell?_alloc_at, World.frozen?_alloc_past, World.frozen?_alloc_at]) <;> rfl))
    have hb4 := hb2.trans (hb3.mono (by simp; omega))
    have HB := Lib.hid hb4
    clear hb2 hb3 hb4
    go_wp2_with fail
    refine (numbers_ok _ _ _ _ _ _ _).mono ?_
    rintro e w4 ⟨rfl, rfl⟩
    go_wp2
    refine wp_range_w (xs := tabRows gs ps) (Kp := TabKp ga aa gs ps w3.heap.size) rfl (enters_of Try.func39 (by kernel_rfl) rfl)
      (numbers1_iter ga aa gc ac gs ps H1.out h2 w3.heap.size _ ?b0 ?b1 ?ig ?ip) (Below.refl _ _) (fun h k => h.trans k) ?kb ?ps
      (LvI ps w.heap.size w3.heap.size w) (fun _ _ => False) ?hI (fun _ _ _ h _ => h) ?h0 ?round ?done (fun _ _ _ _ h _ => h.elim)
    case b0 => ((try simp (disch := first | omega | (simp only [World.size_alloc] <;> omega) | fail) only [World.cell?_alloc_past, World.cell?_alloc_at, World.frozen?_alloc_past, World.frozen?_alloc_at]) <;> rfl)
    case b1 => ((try simp (disch := first | omega | (simp only [World.size_alloc] <;> omega) | fail) only [World.cell?_alloc_past, World.cell?_alloc_at, World.frozen?_alloc_past, World.frozen?_alloc_at]) <;> rfl)
    case ig => exact (HG.out.below HB.out).below ((Below.refl _ _).alloc (Nat.le_refl _) _)
    case ip => exact (HP.out.below HB.out).below ((Below.refl _ _).alloc (Nat.le_refl _) _)
    case kb =>
      intro W l o o' hl ho hc
      simp at hl
      have hcalm := Calm.putObj (B := 0) o' (Nat.zero_le _) ho hc
      exact ⟨World.putObj_heap_other (by omega), hcalm.ints, hcalm.ints⟩
    case ps =>
      intro y hy
      simp only [tabRows, List.mem_map] at hy
      obtain ⟨k, _, rfl⟩ := hy
      rfl
    case hI =>
      intro k W W' hi hc
      exact ⟨hc.cell hi.r, hc.frozen hi.r hi.f, hc.below (by simp; omega) hi.bel, Nat.lt_of_lt_of_le hi.sz hc.size⟩
    case h0 =>
      exact ⟨by rw [World.cell?_alloc_past _ _ _ (by omega)]; exact e2, by rw [World.frozen?_alloc_past _ _ _ (by omega)]; exact e3, HB.out.alloc (by omega) _, by simp⟩
    case round =>
      intro l k W hl hk hi
      rw [tabRows_length] at hk
      rw [tabRows_get hk, tabRow]
      obtain ⟨x, hx⟩ : ∃ x, gs.getD k 0 = x := ⟨_, rfl⟩
      obtain ⟨y, hy⟩ : ∃ y, ps.getD k 0 = y := ⟨_, rfl⟩
      have hok := okAt_facts (may_at HM.out hk)
      rw [hx, hy] at hok ⊢
      have hcl := cntTo_le ps k
      have HX := Lib.hid hx
      have HY := Lib.hid hy
      have HI := Lib.hid hi
      clear hx hy hi
      gi_wp2
      have hbz := HI.out.bel.size
      have hWb := HI.out.sz
      have hab : Below W.heap.size W (W.alloc (.cells #[.int .i64 x, .int .i64 y] 60)) := (Below.refl _ _).alloc (Nat.le_refl _) _
      refine ⟨keeps_below hab, TabKp.below hab hWb, ?_⟩
      intro W2 hc
      have hcy : W2.cell? ⟨W.heap.size, 1, none⟩ = some (.int .i64 y) := hc.cell (by ((try simp (disch := first | omega | (simp only [World.size_alloc] <;> omega) | fail) only [World.cell?_alloc_past, World.cell?_alloc_at, World.frozen?_alloc_past, World.frozen?_alloc_at]) <;> rfl))
      have hv0 : (W.alloc (.cells #[.int .i64 x, .int .i64 y] 60)).cell? ⟨w.heap.size + 1, 0, none⟩ = some (.int .i64 (cntTo ps k)) := by
        rw [World.cell?_alloc_past _ _ _ (by omega)]; exact HI.out.r
      have hv : W2.cell? ⟨w.heap.size + 1, 0, none⟩ = some (.int .i64 (cntTo ps k)) := hc.cell hv0
      have hf : W2.frozen? ⟨w.heap.size + 1, 0, none⟩ = false := by
        refine hc.frozen hv0 ?_
        rw [World.frozen?_alloc_past _ _ _ (by omega)]; exact HI.out.f
      have bel2 : Below w.heap.size w W2 := hc.below (by simp; omega) (HI.out.bel.alloc (by omega) _)
      have hsz : w3.heap.size < W2.heap.size := by have := hc.size; simp at this; omega
      have BE := Lib.hid bel2
      clear hbz hab hc hv0 bel2
      by_cases c0 : y = -1
      · subst c0
        have hcn : cntTo ps (k + 1) = cntTo ps k := cntTo_no (by rw [HY.out]; decide)
        have HN := Lib.hid hcn
        clear hcn
        gi_wp2
        exact ⟨KeepsOthers.refl _, TabKp.refl, by rw [HN.out]; exact hv, hf, BE.out, hsz⟩
      · have c0' : (y != -1) = true := by simpa using c0
        have hcn : cntTo ps (k + 1) = cntTo ps k + 1 := cntTo_yes (by rw [HY.out]; omega)
        have HN := Lib.hid hcn
        clear hcn c0
        gi_wp2
        have hbel3 : Below w.heap.size w (W2.setCell ⟨w.heap.size + 1, 0, none⟩ (.int .i64 ((cntTo ps k : Nat) + 1 : Int))) := BE.out.setCell (by show w.heap.size ≤ w.heap.size + 1; omega) _
        refine ⟨KeepsOthers.setCell _ _ _, ⟨?_, fun _ => HG.out.below hbel3, fun _ => HP.out.below hbel3⟩, ?_, ?_, hbel3, by simpa using hsz⟩
        · exact heap_setCell_ne _ _ _ (by show w3.heap.size ≠ w.heap.size + 1; omega)
        · rw [World.cell?_setCell_same _ _ _ hv, HN.out]; rfl
        · simpa using hf
    case done =>
      intro D W hD hi hK
      obtain ⟨hr, hf, hbel, hsz⟩ := hi
      rw [tabRows_length] at hr
      have HBL := Lib.hid hbel
      clear hbel
      go_wp2
      have hK2 : (W.setCell ⟨w.heap.size + 1, 0, none⟩ (.int .i64 (cntTo ps gs.length))).heap[D]? = some (.deferred (some [])) := (KeepsOthers.setCell _ _ _).same _ _ hK rfl
      have hcalm := Calm.putObj (B := w.heap.size) (.deferred none) (by simp at hD; omega) hK2 rfl
      exact postM_one hK2 (results_ct rfl rfl (run_loadVar_one Try.underlying3 rfl (hcalm.cell (World.cell?_setCell_same _ _ _ hr)))) ⟨rfl, hcalm.below (Nat.le_refl _) (HBL.out.setCell (by show w.heap.size ≤ w.heap.size + 1; omega) _)⟩
  · have hm' : may gs ps = false := by simpa using hm
    have hck := fun w' (hb : Below w.heap.size w w') => Check_ok ga aa gc ac gs ps w' (HG.out.below hb) (HP.out.below hb) hlg hla
    rw [mayE_no hm', liveN_no hm']
    rw [mayE_no hm'] at hck
    have HC := Lib.hid hck
    clear hg hp hm hm' hck
    refine calls_of_wp_m Try.func11 rfl ?_
    simp only [Try.ntmps11, List.size_toArray, List.length_cons, List.length_nil, Nat.reduceAdd, Nat.reduceSub, Array.replicate_succ, Array.replicate_zero, List.push_toArray, List.append_toArray, List.nil_append, List.cons_append]
    go_wp2_with fail
    have hb2 : Below w.heap.size w ((w.alloc (.cells #[.slice ga gs.length gc, .slice aa ps.length ac] 24)).alloc (.cells #[.int .i64 0] 3)) := ((Below.refl _ w).alloc (Nat.le_refl _) _).alloc (by simp) _
    refine (HC.out _ hb2).mono ?_
    rintro e w3 ⟨rfl, hb3⟩
    have hz3 := hb3.size
    rw [World.size_alloc, World.size_alloc] at hz3
    have e2 : w3.cell? ⟨w.heap.size + 1, 0, none⟩ = some (.int .i64 0) := (hb3.cell (p := ⟨w.heap.size + 1, 0, none⟩) (by simp)).trans (by ((try simp (disch := first | omega | (simp only [World.size_alloc] <;> omega) | fail) only [World.cell?_alloc_past, World.cell?_alloc_at, World.frozen?_alloc_past, World.frozen?_alloc_at]) <;> rfl))
    have e3 : w3.frozen? ⟨w.heap.size + 1, 0, none⟩ = false := (hb3.frozen (p := ⟨w.heap.size + 1, 0, none⟩) (by simp)).trans (by ((try simp (disch := first | omega | (simp only [World.size_alloc] <;> omega) | fail) only [World.cell?_alloc_past, World.cell?_alloc_at, World.frozen?_alloc_past, World.frozen?_alloc_at]) <;> rfl))
    have hb4 := hb2.trans (hb3.mono (by simp; omega))
    have HB := Lib.hid hb4
    clear hb2 hb3 hb4
    go_wp2
    exact postM_none (results_ct rfl rfl (run_loadVar_one Try.underlying3 rfl (World.cell?_setCell_same _ _ _ e2))) ⟨rfl, HB.out.setCell (by show w.heap.size ≤ w.heap.size + 1; omega) _⟩

set_option maxHeartbeats 1000000 in
theorem Live14_ok (ga aa : Option Addr) (gc ac : Nat) (gs ps : List Int) (w : World) (hg : IsInts w ga gs) (hp : IsInts w aa ps) (hlg : gs.length ≤ 1000000000) (hla : ps.length ≤ 1000000000) :
    Calls Try.prog 12 #[tabV ga gs.length gc aa ps.length ac] w fun e w' => e = .returned (.tuple #[.int .i64 (liveN gs ps), .int .i64 (mayE gs ps)]) ∧ Below w.heap.size w w' := by
  have HG := Lib.hid hg
  have HP := Lib.hid hp
  have hab : Below w.heap.size w (w.alloc (.cells #[.slice ga gs.length gc, .slice aa ps.length ac] 24)) := (Below.refl _ w).alloc (Nat.le_refl _) _
  have hmy := May_ok ga aa gc ac gs ps _ (HG.out.below hab) (HP.out.below hab) hlg hla
  by_cases hm : may gs ps = true
  · obtain ⟨h1, h2⟩ := may_len hm
    rw [mayE_yes hm, liveN_yes hm]
    rw [hm] at hmy
    rw [h1] at hmy hab ⊢
    have H1 := Lib.hid h1
    have HM := Lib.hid hm
    have HC := Lib.hid hmy
    clear hg hp hlg hla h1 hm hmy
    go_enter Try.func12, Try.ntmps12
    go_wp2_with fail
    refine HC.out.mono ?_
    rintro e w3 ⟨rfl, hb3⟩
    have hz3 := hb3.size
    rw [World.size_alloc] at hz3
    have e1 : w3.cell? ⟨w.heap.size, 1, none⟩ = some (.slice aa gs.length ac) := (hb3.cell (p := ⟨w.heap.size, 1, none⟩) (by simp)).trans (by ((try simp (disch := first | omega | (simp only [World.size_alloc] <;> omega) | fail) only [World.cell?_alloc_past, World.cell?_alloc_at, World.frozen?_alloc_past, World.frozen?_alloc_at]) <;> rfl))
    have hb4 := hab.trans (hb3.mono (by simp))
    have HB := Lib.hid hb4
    have HQ := Lib.hid (HP.out.below hb4)
    clear hab hb3 hb4
    go_wp2
    go_loopg [4, 5] gs.length (fun g n i wr => ∃ k : Nat, k + g = gs.length ∧ i = .int .i64 k ∧ n = .int .i64 (cntTo ps k) ∧ wr = w3)
    case atStart => exact ⟨0, by omega, rfl, rfl, rfl⟩
    case round =>
      obtain ⟨k, hk, rfl, rfl, rfl⟩ := hrel
      by_cases hlt : k < gs.length
      · obtain ⟨b2, o2, y, rfl, hy, hcy, hl2⟩ := HQ.out.get (k := k) (by rw [H1.out]; exact hlt)
        have hcl := cntTo_le ps k
        by_cases c0 : 0 ≤ y
        · have HN := Lib.hid (cntTo_yes (ps := ps) (k := k) (by rw [hy.out]; exact c0))
          go_wp2
          go_roundg (gk - 1)
          case measure => omega
          case rel => exact ⟨k + 1, by omega, by go_num, by rw [HN.out]; rfl, rfl⟩
        · have HN := Lib.hid (cntTo_no (ps := ps) (k := k) (by rw [hy.out]; exact c0))
          go_wp2
          go_roundg (gk - 1)
          case measure => omega
          case rel => exact ⟨k + 1, by omega, by go_num, by rw [HN.out], rfl⟩
      · obtain rfl : k = gs.length := by omega
        go_wp2
        go_ret2
        exact ⟨rfl, HB.out⟩
  · have hm' : may gs ps = false := by simpa using hm
    rw [mayE_no hm', liveN_no hm']
    rw [hm'] at hmy
    have HC := Lib.hid hmy
    clear hg hp hm hm' hmy
    go_enter Try.func12, Try.ntmps12
    go_wp2_with fail
    refine HC.out.mono ?_
    rintro e w3 ⟨rfl, hb3⟩
    go_wp2
    go_ret2
    exact ⟨rfl, hab.trans (hb3.mono (by simp))⟩
end Go.Proofs.Ytonmgmhkejbikaa
