/- Walks of eytz.Place, Rank, Next, Last, and of the reference's. -/
import Derived.Test.YtcbeldemkfbliaaEytzOrd
import Derived.Test.YtcbeldemkfbliaaEytzRef
import Derived.Test.YtcbeldemkfbliaaEytzMore
namespace Go.Proofs.Ytcbeldemkfbliaa
open Go.RowKit Go.Shelf
attribute [local go_sem] Oper.semAt_some
set_option linter.unusedVariables false

/-- a call that answers a known value and leaves all that was there alone -/
def Gives (w : World) (v : Value) (e : Ending) (w' : World) : Prop := e = .returned v ∧ Below w.heap.size w w'

theorem eErr_zero {n a : Int} (h : eErr n a = 0) : 0 ≤ n ∧ n ≤ 65536 ∧ 0 ≤ a ∧ a < n := by
  unfold eErr at h
  repeat' split at h
  all_goals first | omega | (exfalso; omega)

theorem within_any (n a : Int) (w : World) :
    Calls Try.prog 24 #[.int .i64 n, .int .i64 a] w fun e w' => e = .returned (.int .i64 (eErr n a)) ∧ w = w' := by
  by_cases h1 : n < 0
  · have hv : eErr n a = 2 := by simp [eErr, h1]
    rw [hv]
    clear hv
    go_enter Try.func24, Try.ntmps24
    go_wp2_with (go_at_call 21; refine (asked_neg _ h1 _).mono ?_; rintro e w' ⟨rfl, rfl⟩)
    go_ret
    exact ⟨rfl, rfl⟩
  · by_cases h2 : 65536 < n
    · have hv : eErr n a = 4 := by simp [eErr, h1, h2]
      rw [hv]
      clear hv
      go_enter Try.func24, Try.ntmps24
      go_wp2_with (go_at_call 21; refine (asked_many _ h2 _).mono ?_; rintro e w' ⟨rfl, rfl⟩)
      go_ret
      exact ⟨rfl, rfl⟩
    · by_cases h3 : a < 0
      · have hv : eErr n a = 2 := by simp [eErr, h1, h2, h3]
        rw [hv]
        clear hv
        go_enter Try.func24, Try.ntmps24
        go_wp2_with (go_at_call 21; refine (asked_ok _ (by omega) (by omega) _).mono ?_; rintro e w' ⟨rfl, rfl⟩)
        go_ret
        exact ⟨rfl, rfl⟩
      · by_cases h4 : n ≤ a
        · have hv : eErr n a = 2 := by simp [eErr, h1, h2, h3, h4]
          rw [hv]
          clear hv
          go_enter Try.func24, Try.ntmps24
          go_wp2_with (go_at_call 21; refine (asked_ok _ (by omega) (by omega) _).mono ?_; rintro e w' ⟨rfl, rfl⟩)
          go_ret
          exact ⟨rfl, rfl⟩
        · have hv : eErr n a = 0 := by simp [eErr, h1, h2, h3, h4]
          rw [hv]
          clear hv
          go_enter Try.func24, Try.ntmps24
          go_wp2_with (go_at_call 21; refine (asked_ok _ (by omega) (by omega) _).mono ?_; rintro e w' ⟨rfl, rfl⟩)
          go_ret
          exact ⟨rfl, rfl⟩

theorem Rank_any (n a : Int) (w : World) :
    Calls Try.prog 13 #[.int .i64 n, .int .i64 a] w (Gives w (.tuple #[.int .i64 (eyRank n a), .int .i64 (eErr n a)])) := by
  by_cases h : eErr n a = 0
  · obtain ⟨h1, h2, h3, h4⟩ := eErr_zero h
    obtain ⟨N, rfl⟩ := Int.eq_ofNat_of_zero_le h1
    obtain ⟨A, rfl⟩ := Int.eq_ofNat_of_zero_le h3
    have hfin : eyRank N A = (rk N A : Nat) := by simp [eyRank, h]
    have hw := within_any N A w
    rw [h] at hw
    rw [h, hfin]
    have HW := Lib.hid hw
    clear hw h hfin
    go_enter Try.func13, Try.ntmps13
    go_wp2_with fail
    refine HW.out.mono ?_
    rintro e w' ⟨rfl, rfl⟩
    go_wp2_with fail
    refine (Order_ok N _ rfl (by omega) _).mono ?_
    rintro e w1 ⟨v1, rfl, ho1, hb1⟩
    obtain ⟨a1, c1, rfl, hi1, _⟩ := ints_of_owns ho1
    obtain ⟨b, o, x, rfl, hx, hc, _⟩ := hi1.get (k := A) (by rw [rnk_length]; omega)
    have hlen : (A : Int) < ((rnk N).length : Int) := by rw [rnk_length]; exact h4
    rw [rnk_get (by omega)] at hx
    have HI := Lib.hid hi1
    clear hi1 ho1
    go_wp2
    go_ret2
    exact ⟨by rw [hx.out]; rfl, hb1⟩
  · have hfin : eyRank n a = 0 := by simp [eyRank, h]
    have hne : (eErr n a != 0) = true := by simpa using h
    rw [hfin]
    clear h hfin
    go_enter Try.func13, Try.ntmps13
    go_wp2_with (go_at_call 24; refine (within_any _ _ _).mono ?_; rintro e w' ⟨rfl, rfl⟩)
    go_ret2
    exact ⟨rfl, Below.refl _ _⟩

structure PlI (m a B : Nat) (w : World) (k : Nat) (W : World) : Prop where
  no : k ≤ a
  asks : W.cell? ⟨B, 0, none⟩ = some (.int .i64 a)
  r1 : W.cell? ⟨B + 1, 0, none⟩ = some (.int .i64 0)
  f1 : W.frozen? ⟨B + 1, 0, none⟩ = false
  r2 : W.cell? ⟨B + 2, 0, none⟩ = some (.int .i64 0)
  f2 : W.frozen? ⟨B + 2, 0, none⟩ = false
  bel : Below B w W
structure PlX (x B : Nat) (w : World) (c : Code) (W : World) : Prop where
  code : c = .ret
  r1 : W.cell? ⟨B + 1, 0, none⟩ = some (.int .i64 x)
  r2 : W.cell? ⟨B + 2, 0, none⟩ = some (.int .i64 0)
  bel : Below B w W

set_option maxHeartbeats 400000 in
theorem Place_any (n a : Int) (w : World) :
    Calls Try.prog 12 #[.int .i64 n, .int .i64 a] w (Gives w (.tuple #[.int .i64 (eyPlace n a), .int .i64 (eErr n a)])) := by
  by_cases h : eErr n a = 0
  · obtain ⟨h1, h2, h3, h4⟩ := eErr_zero h
    obtain ⟨N, rfl⟩ := Int.eq_ofNat_of_zero_le h1
    obtain ⟨A, rfl⟩ := Int.eq_ofNat_of_zero_le h3
    have hfin : eyPlace N A = ((ord N 0).getD A 0 : Nat) := by simp [eyPlace, h]
    have hw := fun w => within_any N A w
    rw [h] at hw
    rw [h, hfin]
    obtain ⟨x, hx⟩ : ∃ x, (ord N 0).getD A 0 = x := ⟨_, rfl⟩
    rw [hx]
    have HX := Lib.hid hx
    have HW := Lib.hid hw
    clear hw h hfin hx
    refine calls_of_wp_m Try.func12 rfl ?_
    simp only [Try.ntmps12, List.size_toArray, List.length_cons, List.length_nil, Nat.reduceAdd, Nat.reduceSub, Array.replicate_succ, Array.replicate_zero, List.push_toArray, List.append_toArray, List.nil_append, List.cons_append]
    go_wp2_with fail
    refine (HW.out _).mono ?_
    rintro e w' ⟨rfl, rfl⟩
    go_wp2_with fail
    refine (places_ok N _).mono ?_
    rintro e w2 ⟨rfl, rfl⟩
    go_wp2
    refine wp_range (xs := ordPairs N) (Kp := fun W W' => W'.heap[w.heap.size + 3]? = W.heap[w.heap.size + 3]?) rfl (enters_of Try.func29 (by kernel_rfl) rfl)
      (places1_iter N (by omega) (w.heap.size + 3) _ ?cbox) (Below.refl _ _) (fun h k => k.trans h) ?kb ?ps
      (PlI N A w.heap.size w) (PlX x w.heap.size w) ?hI ?hIx ?h0 ?round ?done ?stop
    case cbox => ((try simp (disch := first | omega | (simp only [World.size_alloc] <;> omega) | fail) only [World.cell?_alloc_past, World.cell?_alloc_at, World.frozen?_alloc_past, World.frozen?_alloc_at]) <;> rfl)
    case kb =>
      intro W l o o' hl _ _
      simp at hl
      exact World.putObj_heap_other (by omega)
    case ps =>
      intro y hy
      simp only [ordPairs, List.mem_map] at hy
      obtain ⟨k, _, rfl⟩ := hy
      rfl
    case hI =>
      intro k W W' hi hc
      exact ⟨hi.no, hc.cell hi.asks, hc.cell hi.r1, hc.frozen hi.r1 hi.f1, hc.cell hi.r2, hc.frozen hi.r2 hi.f2, hc.below (by simp; omega) hi.bel⟩
    case hIx =>
      intro c W W' hi hc
      exact ⟨hi.code, hc.cell hi.r1, hc.cell hi.r2, hc.below (by simp; omega) hi.bel⟩
    case h0 =>
      exact ⟨Nat.zero_le _, by ((try simp (disch := first | omega | (simp only [World.size_alloc] <;> omega) | fail) only [World.cell?_alloc_past, World.cell?_alloc_at, World.frozen?_alloc_past, World.frozen?_alloc_at]) <;> rfl), by ((try simp (disch := first | omega | (simp only [World.size_alloc] <;> omega) | fail) only [World.cell?_alloc_past, World.cell?_alloc_at, World.frozen?_alloc_past, World.frozen?_alloc_at]) <;> rfl), by ((try simp (disch := first | omega | (simp only [World.size_alloc] <;> omega) | fail) only [World.cell?_alloc_past, World.cell?_alloc_at, World.frozen?_alloc_past, World.frozen?_alloc_at]) <;> rfl), by ((try simp (disch := first | omega | (simp only [World.size_alloc] <;> omega) | fail) only [World.cell?_alloc_past, World.cell?_alloc_at, World.frozen?_alloc_past, World.frozen?_alloc_at]) <;> rfl), by ((try simp (disch := first | omega | (simp only [World.size_alloc] <;> omega) | fail) only [World.cell?_alloc_past, World.cell?_alloc_at, World.frozen?_alloc_past, World.frozen?_alloc_at]) <;> rfl), ((((Below.refl _ w).alloc (Nat.le_refl _) _).alloc (by simp) _).alloc (by simp; omega) _).alloc (by simp; omega) _⟩
    case round =>
      intro l k W hl hk hi
      rw [ordPairs_length] at hk
      rw [ordPairs_get hk]
      obtain ⟨y, hye⟩ : ∃ y, (ord N 0).getD k 0 = y := ⟨_, rfl⟩
      rw [hye]
      have HY := Lib.hid hye
      clear hye
      gi_wp2
      refine ⟨rfl, ?_⟩
      intro W2 hi2
      obtain ⟨hno, hasks, hr1, hf1, hr2, hf2, hbel⟩ := hi2
      have HB := Lib.hid hbel
      clear hbel hi
      by_cases he : k = A
      · have heq : ((k : Int) == (A : Int)) = true := by simp [he]
        have HE := Lib.hid he
        clear he hno
        gi_wp2
        refine ⟨(KeepsOthers.setCell _ _ _).trans (KeepsOthers.setCell _ _ _), rfl, ?_, ?_, ?_⟩
        · rw [World.cell?_setCell_other _ _ _ _ (by intro e; simp at e), World.cell?_setCell_same _ _ _ hr1]
          rw [← HY.out, ← HX.out, HE.out]
        · exact World.cell?_setCell_same _ _ _ (by rw [World.cell?_setCell_other _ _ _ _ (by intro e; simp at e)]; exact hr2)
        · exact (HB.out.setCell (by show w.heap.size ≤ w.heap.size + 1; omega) _).setCell (by show w.heap.size ≤ w.heap.size + 2; omega) _
      · have heq : ((k : Int) == (A : Int)) = false := by simp; omega
        have hno' : k + 1 ≤ A := by omega
        clear he hno
        gi_wp2
        exact ⟨KeepsOthers.refl _, rfl, hno', hasks, hr1, hf1, hr2, hf2, HB.out⟩
    case done =>
      intro D W hD hi hK
      have := hi.no
      rw [ordPairs_length] at this
      omega
    case stop =>
      intro D c W hD hi hK
      obtain ⟨rfl, hr1, hr2, hbel⟩ := hi
      have hcalm := Calm.putObj (B := w.heap.size) (.deferred none) (by simp at hD; omega) hK rfl
      go_wp2
      exact postM_one hK (results_cc rfl rfl rfl (run_loadVar_one Try.underlying3 rfl (hcalm.cell hr1)) (run_loadVar_one Try.underlying23 rfl (hcalm.cell hr2))) ⟨rfl, hcalm.below (Nat.le_refl _) hbel⟩
  · have hfin : eyPlace n a = 0 := by simp [eyPlace, h]
    have hne : (eErr n a != 0) = true := by simpa using h
    rw [hfin]
    clear h hfin
    refine calls_of_wp_m Try.func12 rfl ?_
    simp only [Try.ntmps12, List.size_toArray, List.length_cons, List.length_nil, Nat.reduceAdd, Nat.reduceSub, Array.replicate_succ, Array.replicate_zero, List.push_toArray, List.append_toArray, List.nil_append, List.cons_append]
    go_wp2_with (go_at_call 24; refine (within_any _ _ _).mono ?_; rintro e w' ⟨rfl, rfl⟩)
    exact postM_none (results_cc rfl rfl rfl (run_loadVar_one Try.underlying3 rfl (by ((try simp (disch := first | omega | (simp only [World.size_alloc] <;> omega) | fail) only [World.cell?_alloc_past, World.cell?_alloc_at, World.frozen?_alloc_past, World.frozen?_alloc_at]) <;> rfl))) (run_loadVar_one Try.underlying23 rfl (by ((try simp (disch := first | omega | (simp only [World.size_alloc] <;> omega) | fail) only [World.cell?_alloc_past, World.cell?_alloc_at, World.frozen?_alloc_past, World.frozen?_alloc_at]) <;> rfl)))) ⟨rfl, (((Below.refl _ w).alloc (Nat.le_refl _) _).alloc (by simp) _).alloc (by simp; omega) _⟩
end Go.Proofs.Ytcbeldemkfbliaa
