/- Walks of handle.Check and Live. -/
import Derived.Test.YtonmgmhkejbikaaTabIt
namespace Go.Proofs.Ytonmgmhkejbikaa
open Go.RowKit Go.Shelf
attribute [local go_sem] Oper.semAt_some
set_option linter.unusedVariables false
set_option linter.unusedSimpArgs false

theorem numbers_ok (ga aa : Option Addr) (gl gc al ac : Nat) (w : World) :
    Calls Try.prog 30 #[tabV ga gl gc aa al ac] w fun e w' =>
      e = .returned (.func (.func 39) #[] #[.pointer (some ⟨w.heap.size, 0, none⟩)]) ∧ w' = w.alloc (.cells #[.slice ga gl gc, .slice aa al ac] 24) := by
  go_enter Try.func30, Try.ntmps30
  go_wp2
  go_ret
  exact ⟨rfl, rfl⟩

/-- the loop of Check: how far, and the blocks that were there are as they were -/
structure CkI (gs ps : List Int) (B : Nat) (w : World) (k : Nat) (W : World) : Prop where
  ok : okTo gs ps k = true
  r : ∃ v, W.cell? ⟨B + 1, 0, none⟩ = some v
  f : W.frozen? ⟨B + 1, 0, none⟩ = false
  bel : Below B w W
  sz : B + 2 < W.heap.size
structure CkX (gs ps : List Int) (B : Nat) (w : World) (c : Code) (W : World) : Prop where
  code : c = .ret
  bad : may gs ps = false
  r : W.cell? ⟨B + 1, 0, none⟩ = some (.int .i64 8)
  bel : Below B w W

set_option maxHeartbeats 1000000 in
theorem Check_ok (ga aa : Option Addr) (gc ac : Nat) (gs ps : List Int) (w : World) (hg : IsInts w ga gs) (hp : IsInts w aa ps) (hlg : gs.length ≤ 1000000000) (hla : ps.length ≤ 1000000000) :
    Calls Try.prog 15 #[tabV ga gs.length gc aa ps.length ac] w fun e w' => e = .returned (.int .i64 (mayE gs ps)) ∧ Below w.heap.size w w' := by
  by_cases h1 : ps.length = gs.length
  · by_cases h2 : gs.length ≤ 65536
    · have hmay : may gs ps = okTo gs ps gs.length := by simp [may, h1, h2]
      rw [h1]
      have HG := Lib.hid hg
      have HP := Lib.hid hp
      have H1 := Lib.hid h1
      have HM := Lib.hid hmay
      clear hg hp hla hlg h1 hmay
      refine calls_of_wp_m Try.func15 rfl ?_
      simp only [Try.ntmps15, List.size_toArray, List.length_cons, List.length_nil, Nat.reduceAdd, Nat.reduceSub, Array.replicate_succ, Array.replicate_zero, List.push_toArray, List.append_toArray, List.nil_append, List.cons_append]
      go_wp2_with fail
      refine (numbers_ok _ _ _ _ _ _ _).mono ?_
      rintro e w2 ⟨rfl, rfl⟩
      go_wp2
      refine wp_range_w (xs := tabRows gs ps) (Kp := TabKp ga aa gs ps (w.heap.size + 2)) rfl (enters_of Try.func39 (by kernel_rfl) rfl)
        (numbers1_iter ga aa gc ac gs ps H1.out h2 (w.heap.size + 2) _ ?b0 ?b1 ?ig ?ip) (Below.refl _ _) (fun h k => h.trans k) ?kb ?ps
        (CkI gs ps w.heap.size w) (CkX gs ps w.heap.size w) ?hI ?hIx ?h0 ?round ?done ?stop
      case b0 => ((try simp (disch := first | omega | (simp only [World.size_alloc] <;> omega) | fail) only [World.cell?_alloc_past, World.cell?_alloc_at, World.frozen?_alloc_past, World.frozen?_alloc_at]) <;> rfl)
      case b1 => ((try simp (disch := first | omega | (simp only [World.size_alloc] <;> omega) | fail) only [World.cell?_alloc_past, World.cell?_alloc_at, World.frozen?_alloc_past, World.frozen?_alloc_at]) <;> rfl)
      case ig => exact ((HG.out.below ((Below.refl _ _).alloc (Nat.le_refl _) _)).below ((Below.refl _ _).alloc (Nat.le_refl _) _)).below ((Below.refl _ _).alloc (Nat.le_refl _) _)
      case ip => exact ((HP.out.below ((Below.refl _ _).alloc (Nat.le_refl _) _)).below ((Below.refl _ _).alloc (Nat.le_refl _) _)).below ((Below.refl _ _).alloc (Nat.le_refl _) _)
      case kb =>
        intro W l o o' hl ho hc
        simp at hl
        have hcalm := Calm.putObj (B := 0) o' (Nat.zero_le _) ho hc
        exact ⟨World.putObj_heap_other (by omega), hcalm.ints, hcalm.ints⟩
      case ps =>
        intro y hy
        simp only [tabRows, List.mem_map] at hy
        obtain ⟨k, _, rfl⟩ := hy
        rfl
      case hI =>
        intro k W W' hi hc
        obtain ⟨v, hv⟩ := hi.r
        exact ⟨hi.ok, ⟨v, hc.cell hv⟩, hc.frozen hv hi.f, hc.below (by simp; omega) hi.bel, Nat.lt_of_lt_of_le hi.sz hc.size⟩
      case hIx =>
        intro c W W' hi hc
        exact ⟨hi.code, hi.bad, hc.cell hi.r, hc.below (by simp; omega) hi.bel⟩
      case h0 =>
        exact ⟨rfl, ⟨_, by ((try simp (disch := first | omega | (simp only [World.size_alloc] <;> omega) | fail) only [World.cell?_alloc_past, World.cell?_alloc_at, World.frozen?_alloc_past, World.frozen?_alloc_at]) <;> rfl)⟩, by ((try simp (disch := first | omega | (simp only [World.size_alloc] <;> omega) | fail) only [World.cell?_alloc_past, World.cell?_alloc_at, World.frozen?_alloc_past, World.frozen?_alloc_at]) <;> rfl), (((Below.refl _ w).alloc (Nat.le_refl _) _).alloc (by simp) _).alloc (by simp; omega) _, by simp⟩
      case round =>
        intro l k W hl hk hi
        rw [tabRows_length] at hk
        rw [tabRows_get hk, tabRow]
        obtain ⟨x, hx⟩ : ∃ x, gs.getD k 0 = x := ⟨_, rfl⟩
        obtain ⟨y, hy⟩ : ∃ y, ps.getD k 0 = y := ⟨_, rfl⟩
        rw [hx, hy]
        have HX := Lib.hid hx
        have HY := Lib.hid hy
        have HI := Lib.hid hi
        clear hx hy hi
        gi_wp2
        have hbz := HI.out.bel.size
        have hWb : w.heap.size + 2 < W.heap.size := HI.out.sz
        have hab : Below W.heap.size W (W.alloc (.cells #[.int .i64 x, .int .i64 y] 60)) := (Below.refl _ _).alloc (Nat.le_refl _) _
        refine ⟨keeps_below hab, TabKp.below hab hWb, ?_⟩
        intro W2 hc
        have hcx : W2.cell? ⟨W.heap.size, 0, none⟩ = some (.int .i64 x) := hc.cell (by ((try simp (disch := first | omega | (simp only [World.size_alloc] <;> omega) | fail) only [World.cell?_alloc_past, World.cell?_alloc_at, World.frozen?_alloc_past, World.frozen?_alloc_at]) <;> rfl))
        have hcy : W2.cell? ⟨W.heap.size, 1, none⟩ = some (.int .i64 y) := hc.cell (by ((try simp (disch := first | omega | (simp only [World.size_alloc] <;> omega) | fail) only [World.cell?_alloc_past, World.cell?_alloc_at, World.frozen?_alloc_past, World.frozen?_alloc_at]) <;> rfl))
        obtain ⟨v, hv0⟩ := HI.out.r
        have hf0 := HI.out.f
        have hv : W2.cell? ⟨w.heap.size + 1, 0, none⟩ = some v := by
          refine hc.cell ?_
          rw [World.cell?_alloc_past _ _ _ (by omega)]; exact hv0
        have hf : W2.frozen? ⟨w.heap.size + 1, 0, none⟩ = false := by
          refine hc.frozen (v := v) ?_ ?_
          · rw [World.cell?_alloc_past _ _ _ (by omega)]; exact hv0
          · rw [World.frozen?_alloc_past _ _ _ (by omega)]; exact hf0
        have bel2 : Below w.heap.size w W2 := hc.below (by simp; omega) (HI.out.bel.alloc (by omega) _)
        have BE := Lib.hid bel2
        have HO : okAt x y = true → okTo gs ps (k + 1) = true := fun h => by rw [okTo_succ, HI.out.ok, HX.out, HY.out, h]; rfl
        have HB : okAt x y = false → may gs ps = false := fun h => by rw [HM.out]; exact okTo_false hk (by rw [HX.out, HY.out]; exact h)
        have HO' := Lib.hid HO
        have HB' := Lib.hid HB
        have HS2 : w.heap.size + 2 < W2.heap.size := by have := hc.size; simp at this; omega
        clear hbz hab hc hv0 hf0 bel2 HO HB
        have hsz : w.heap.size + 2 < W2.heap.size := HS2
        clear HS2
        by_cases c0 : y = -1
        · subst c0
          by_cases c1 : x < 0
          ·
            have HZ := Lib.hid (HB'.out (by simp [okAt, c1]))
            gi_wp2
            exact ⟨KeepsOthers.setCell _ _ _, rfl, HZ.out, World.cell?_setCell_same _ _ _ hv, BE.out.setCell (by show w.heap.size ≤ w.heap.size + 1; omega) _⟩
          · by_cases c2 : 2147483647 < x
            ·
              have HZ := Lib.hid (HB'.out (by simp [okAt, c2]))
              gi_wp2
              exact ⟨KeepsOthers.setCell _ _ _, rfl, HZ.out, World.cell?_setCell_same _ _ _ hv, BE.out.setCell (by show w.heap.size ≤ w.heap.size + 1; omega) _⟩
            ·
              have HZ := Lib.hid (HO'.out (by simp [okAt, c1, c2]))
              gi_wp2
              exact ⟨KeepsOthers.refl _, TabKp.refl, HZ.out, ⟨_, hv⟩, hf, BE.out, hsz⟩
        · have c0' : (y != -1) = true := by simpa using c0
          have hc0 : y < -1 ∨ 0 ≤ y := by omega
          clear c0
          by_cases c1 : x < 0
          ·
            have HZ := Lib.hid (HB'.out (by simp [okAt, c1]))
            gi_wp2
            exact ⟨KeepsOthers.setCell _ _ _, rfl, HZ.out, World.cell?_setCell_same _ _ _ hv, BE.out.setCell (by show w.heap.size ≤ w.heap.size + 1; omega) _⟩
          · by_cases c2 : 2147483646 < x
            · have hz : okAt x y = false := by
                rcases hc0 with h | h
                · simp [okAt, h]
                · by_cases h3 : 2147483647 < x
                  · simp [okAt, h3]
                  · simp [okAt, h, show x = 2147483647 by omega]
              have HZ := Lib.hid (HB'.out hz)
              clear hz
              gi_wp2
              exact ⟨KeepsOthers.setCell _ _ _, rfl, HZ.out, World.cell?_setCell_same _ _ _ hv, BE.out.setCell (by show w.heap.size ≤ w.heap.size + 1; omega) _⟩
            · by_cases c3 : y < -1
              ·
                have HZ := Lib.hid (HB'.out (by simp [okAt, c3]))
                gi_wp2
                exact ⟨KeepsOthers.setCell _ _ _, rfl, HZ.out, World.cell?_setCell_same _ _ _ hv, BE.out.setCell (by show w.heap.size ≤ w.heap.size + 1; omega) _⟩
              ·
                have HZ := Lib.hid (HO'.out (by simp [okAt, c1, c3, show ¬ 2147483647 < x by omega, show ¬ x = 2147483647 by omega]))
                gi_wp2
                exact ⟨KeepsOthers.refl _, TabKp.refl, HZ.out, ⟨_, hv⟩, hf, BE.out, hsz⟩
      case done =>
        intro D W hD hi hK
        obtain ⟨hok, ⟨v, hv⟩, hf, hbel, hsz⟩ := hi
        rw [tabRows_length] at hok
        have HB := Lib.hid hbel
        have hm : mayE gs ps = 0 := mayE_yes (HM.out.trans hok)
        have HZ := Lib.hid hm
        clear hok hbel hm
        go_wp2
        have hK2 : (W.setCell ⟨w.heap.size + 1, 0, none⟩ (.int .i64 0)).heap[D]? = some (.deferred (some [])) := (KeepsOthers.setCell _ _ _).same _ _ hK rfl
        have hcalm := Calm.putObj (B := w.heap.size) (.deferred none) (by simp at hD; omega) hK2 rfl
        exact postM_one hK2 (results_c rfl rfl (run_loadVar_one Try.underlying28 rfl (hcalm.cell (World.cell?_setCell_same _ _ _ hv)))) ⟨by rw [HZ.out], hcalm.below (Nat.le_refl _) (HB.out.setCell (by show w.heap.size ≤ w.heap.size + 1; omega) _)⟩
      case stop =>
        intro D c W hD hi hK
        obtain ⟨rfl, hbad, hr, hbel⟩ := hi
        have hm : mayE gs ps = 8 := mayE_no hbad
        have HZ := Lib.hid hm
        clear hm
        have hcalm := Calm.putObj (B := w.heap.size) (.deferred none) (by simp at hD; omega) hK rfl
        go_wp2
        exact postM_one hK (results_c rfl rfl (run_loadVar_one Try.underlying28 rfl (hcalm.cell hr))) ⟨by rw [HZ.out], hcalm.below (Nat.le_refl _) hbel⟩
    · have hfin : mayE gs ps = 8 := mayE_no (by simp [may, h2])
      rw [hfin, h1]
      clear hg hp hla h1 hfin
      refine calls_of_wp_m Try.func15 rfl ?_
      simp only [Try.ntmps15, List.size_toArray, List.length_cons, List.length_nil, Nat.reduceAdd, Nat.reduceSub, Array.replicate_succ, Array.replicate_zero, List.push_toArray, List.append_toArray, List.nil_append, List.cons_append]
      go_wp2
      exact postM_none (results_c rfl rfl (run_loadVar_one Try.underlying28 rfl (by ((try simp (disch := first | omega | (simp only [World.size_alloc] <;> omega) | fail) only [World.cell?_alloc_past, World.cell?_alloc_at, World.frozen?_alloc_past, World.frozen?_alloc_at]) <;> rfl)))) ⟨rfl, ((Below.refl _ w).alloc (Nat.le_refl _) _).alloc (by simp) _⟩
  · have hfin : mayE gs ps = 8 := mayE_no (by simp [may, h1])
    rw [hfin]
    have hne : ((ps.length : Int) != (gs.length : Int)) = true := by simp; omega
    clear hg hp h1 hfin
    refine calls_of_wp_m Try.func15 rfl ?_
    simp only [Try.ntmps15, List.size_toArray, List.length_cons, List.length_nil, Nat.reduceAdd, Nat.reduceSub, Array.replicate_succ, Array.replicate_zero, List.push_toArray, List.append_toArray, List.nil_append, List.cons_append]
    go_wp2
    exact postM_none (results_c rfl rfl (run_loadVar_one Try.underlying28 rfl (by ((try simp (disch := first | omega | (simp only [World.size_alloc] <;> omega) | fail) only [World.cell?_alloc_past, World.cell?_alloc_at, World.frozen?_alloc_past, World.frozen?_alloc_at]) <;> rfl)))) ⟨rfl, ((Below.refl _ w).alloc (Nat.le_refl _) _).alloc (by simp) _⟩
end Go.Proofs.Ytonmgmhkejbikaa
