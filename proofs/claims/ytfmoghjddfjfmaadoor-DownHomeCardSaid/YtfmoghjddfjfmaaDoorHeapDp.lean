/- Merged: HeapDep, HeapPath. -/
import Derived.Test.YtfmoghjddfjfmaaDoorHeapUF
import Derived.Laws.EntriesVeiled
namespace Go.Proofs.YtfmoghjddfjfmaaDoor
set_option linter.unusedVariables false
set_option linter.unusedSimpArgs false
section
open Go.RowKit Go.Shelf
attribute [local go_sem] Oper.semAt_some

/-- what holds at each round of Depth -/
structure DepI (n B : Nat) (w : World) (k : Nat) (W : World) : Prop where
  box : W.cell? ⟨B, 0, none⟩ = some (.int .i64 ((k : Int) - 1))
  fz : W.frozen? ⟨B, 0, none⟩ = false
  bel : Below B w W

theorem rows_ps {n : Nat} : ∀ y ∈ upRows n, y.size = 1 := by
  intro y hy
  simp only [upRows, List.mem_map] at hy
  obtain ⟨k, _, rfl⟩ := hy
  rfl

set_option maxHeartbeats 400000 in
theorem Depth_any (l n : Int) (w : World) :
    Calls Tryd.prog 51 #[.int .i64 l, .int .i64 n] w (Gives w (.tuple #[.int .i64 (dpR l n), .int .i64 (ndE l n)])) := by
  by_cases h : ndE l n = 0
  · obtain ⟨h1, h2, h3, h4⟩ := ndE_zero h
    obtain ⟨N, rfl⟩ := Int.eq_ofNat_of_zero_le (show 0 ≤ n by omega)
    have hb := (pow_bdI l h2).2
    have hr : dpR l N = (N.log2 : Nat) := by rw [dpR, h]; rfl
    have hw := fun w => node_any l N w
    rw [h] at hw
    rw [h, hr]
    have hlog : N.log2 < 14 := log2_lt_of (by omega) (by omega)
    have HW := Lib.hid hw
    have hN : N < 16384 := by omega
    have hN1 : 1 ≤ N := by omega
    clear hw h hr h4 hb h3 h1 h2
    refine calls_of_wp_m Tryd.func51 rfl ?_
    simp only [Tryd.ntmps51, List.size_toArray, List.length_cons, List.length_nil, Nat.reduceAdd, Nat.reduceSub, Array.replicate_succ, Array.replicate_zero, List.push_toArray, List.append_toArray, List.nil_append, List.cons_append]
    go_wp2_with fail
    refine (HW.out _).mono ?_
    rintro e w' ⟨rfl, rfl⟩
    go_wp2_with fail
    refine (up_ok N _).mono ?_
    rintro e w2 ⟨rfl, rfl⟩
    go_wp2
    refine wp_range_s (xs := upRows N) (Kp := fun W W' => W'.heap[w.heap.size + 1]? = W.heap[w.heap.size + 1]?) (Sw := UpSw (w.heap.size + 1)) rfl (enters_of Tryd.func67 (by kernel_rfl) rfl)
      (up1_iter N hN1 hN (w.heap.size + 1) _ ?cbox ?cfz) UpSw.keeps (Below.refl _ _) (fun _ => rfl) (fun h k => k.trans h) ?kb rows_ps
      (DepI N w.heap.size w) (fun _ _ => False) ?hI (fun _ _ _ h _ => h) ?hIS (fun _ _ _ h _ => h) ?h0 ?round ?done (fun _ _ _ _ h _ => h.elim)
    case cbox => ((try simp (disch := first | omega | (simp only [World.size_alloc] <;> omega) | fail) only [World.cell?_alloc_past, World.cell?_alloc_at, World.frozen?_alloc_past, World.frozen?_alloc_at]) <;> rfl)
    case cfz => ((try simp (disch := first | omega | (simp only [World.size_alloc] <;> omega) | fail) only [World.cell?_alloc_past, World.cell?_alloc_at, World.frozen?_alloc_past, World.frozen?_alloc_at]) <;> rfl)
    case kb =>
      intro W l o o' hl _ _
      simp at hl
      exact World.putObj_heap_other (by omega)
    case hI =>
      intro k W W' hi hc
      exact ⟨hc.cell hi.box, hc.frozen hi.box hi.fz, hc.below (by simp; omega) hi.bel⟩
    case hIS =>
      rintro k W W' hi ⟨v, rfl⟩
      exact ⟨by rw [World.cell?_setCell_other _ _ _ _ (by intro e; simp at e)]; exact hi.box, by rw [World.frozen?_setCell]; exact hi.fz, hi.bel.setCell (by show w.heap.size ≤ w.heap.size + 1; omega) _⟩
    case h0 =>
      exact ⟨by ((try simp (disch := first | omega | (simp only [World.size_alloc] <;> omega) | fail) only [World.cell?_alloc_past, World.cell?_alloc_at, World.frozen?_alloc_past, World.frozen?_alloc_at]) <;> rfl), by ((try simp (disch := first | omega | (simp only [World.size_alloc] <;> omega) | fail) only [World.cell?_alloc_past, World.cell?_alloc_at, World.frozen?_alloc_past, World.frozen?_alloc_at]) <;> rfl), ((Below.refl _ w).alloc (Nat.le_refl _) _).alloc (by simp) _⟩
    case round =>
      intro l k W hl hk hi
      rw [upRows_length] at hk
      rw [upRows_get hN1 (by omega)]
      gi_wp2
      refine ⟨rfl, ?_⟩
      intro W2 hi2
      obtain ⟨hbox, hfz, hbel⟩ := hi2
      have HB := Lib.hid hbel
      clear hbel hi
      gi_wp2
      refine ⟨KeepsOthers.setCell _ _ _, Below.heap_setCell _ _ _ _ (by show w.heap.size + 1 ≠ w.heap.size; omega), ⟨?_, by rw [World.frozen?_setCell]; exact hfz, HB.out.setCell (Nat.le_refl _) _⟩⟩
      rw [World.cell?_setCell_same _ _ _ hbox]
      congr 2
      omega
    case done =>
      intro D W hD hi hK
      obtain ⟨hbox, hfz, hbel⟩ := hi
      rw [upRows_length] at hbox
      simp at hD
      have hcalm := Calm.putObj (B := w.heap.size) (.deferred none) (by omega) hK rfl
      go_wp2
      refine postM_one hK (results_tmp2 rfl _ _ _) ⟨?_, hcalm.below (Nat.le_refl _) hbel⟩
      simp
  · have h2 := ndE_no h
    have hr : dpR l n = 0 := by rw [dpR, h2]; rfl
    rw [hr, h2]
    have hw := fun w => node_any l n w
    rw [h2] at hw
    have HW := Lib.hid hw
    clear h h2 hw hr
    refine calls_of_wp_m Tryd.func51 rfl ?_
    simp only [Tryd.ntmps51, List.size_toArray, List.length_cons, List.length_nil, Nat.reduceAdd, Nat.reduceSub, Array.replicate_succ, Array.replicate_zero, List.push_toArray, List.append_toArray, List.nil_append, List.cons_append]
    go_wp2_with fail
    refine (HW.out _).mono ?_
    rintro e w' ⟨rfl, rfl⟩
    go_wp2
    exact postM_none (results_tmp2 rfl _ _ _) ⟨rfl, Below.refl _ _⟩
end

section
open Go.RowKit Go.Shelf
attribute [local go_sem] Oper.semAt_some

/-- a row of one's own stays where another block is written -/
theorem owns_other {W : World} {base : Nat} {e : TypeId} {size : Nat} {v : Value} {n : Nat} {xs : List Value} (ho : W.ownsRow base e size v n xs) (a : Addr) (x : Value) (hh : ∀ k, v.ownBlock = some k → k ≠ a.block) : (W.setCell a x).ownsRow base e size v n xs :=
  owns_heap ho fun k hk => heap_setCell_ne _ _ _ (hh k hk)

/-- the nodes of a path that are laid after k rounds, from below -/
def pthTo (n : Nat) : Nat → List Int
  | 0 => List.replicate (n.log2 + 1) 0
  | k + 1 => (pthTo n k).set (n.log2 - k) ((n / 2 ^ k : Nat) : Int)
theorem pthTo_length (n k : Nat) : (pthTo n k).length = n.log2 + 1 := by
  induction k with
  | zero => simp [pthTo]
  | succ k ih => simp [pthTo, ih]
theorem pthTo_get (n : Nat) (i : Nat) (hi : i ≤ n.log2) : ∀ k, k ≤ n.log2 + 1 → n.log2 - i < k → (pthTo n k).getD i 0 = ((n / 2 ^ (n.log2 - i) : Nat) : Int) := by
  intro k
  induction k with
  | zero => intro _ h; omega
  | succ k ih =>
    intro hk h
    rw [pthTo, List.getD_eq_getElem?_getD, List.getElem?_set]
    by_cases e : n.log2 - k = i
    · rw [if_pos e, if_pos (by rw [pthTo_length]; omega)]
      rw [show n.log2 - i = k by omega]; rfl
    · rw [if_neg e, ← List.getD_eq_getElem?_getD]
      exact ih (by omega) (by omega)
theorem pthTo_all (n : Nat) (h1 : 1 ≤ n) : pthTo n (n.log2 + 1) = ints (pth n) := by
  refine List.ext_getElem (by rw [pthTo_length, ints_length, pth_length]) fun i h2 h3 => ?_
  have hi : i ≤ n.log2 := by rw [pthTo_length] at h2; omega
  have e1 := pthTo_get n i hi (n.log2 + 1) (Nat.le_refl _) (by omega)
  have e2 := pth_get n h1 (n.log2 - i) (by omega)
  rw [show n.log2 - (n.log2 - i) = i by omega] at e2
  have e3 := getD_ints (pth n) i
  rw [e2, ← e1] at e3
  rw [List.getD_eq_getElem?_getD, List.getElem?_eq_getElem h3, List.getD_eq_getElem?_getD, List.getElem?_eq_getElem h2] at e3
  exact e3.symm

theorem put_ok (x : Int) (ba bo g L k : Nat) (xs : List Int) (B : Nat) (w : World) (hA : w.cell? ⟨ba, 0, none⟩ = some (.int .i64 ((k + 1 : Nat) : Int))) (fA : w.frozen? ⟨ba, 0, none⟩ = false)
    (hO : w.cell? ⟨bo, 0, none⟩ = some (.slice (some ⟨g, 0, none⟩) L L)) (hne : ba ≠ bo) (hk : k < xs.length) (hL : xs.length ≤ 100) (hg : ba ≠ g) (hown : w.ownsRow B 3 1 (.slice (some ⟨g, 0, none⟩) L L) xs.length (xs.map (Value.int .i64))) :
    Calls Tryd.prog 49 #[.int .i64 x, .pointer (some ⟨ba, 0, none⟩), .pointer (some ⟨bo, 0, none⟩)] w fun e w' => (∃ v, e = .returned v) ∧ (w.setCell ⟨ba, 0, none⟩ (.int .i64 k)).setCell ⟨g, k, none⟩ (.int .i64 x) = w' := by
  have hn : L = xs.length := by
    obtain ⟨_, ⟨hv, _⟩ | ⟨_, _, _, hv, _⟩⟩ := hown
    · cases hv
    · cases hv; rfl
  obtain ⟨⟨y, hy, hcy⟩, hfz, -⟩ := ints_cell hown hk
  have e1 : (((k + 1 : Nat) : Int) - 1) = (k : Int) := by omega
  have hk1 : (k : Int) < (L : Int) := by omega
  have hk0 : (0 : Int) ≤ (k : Int) := by omega
  have c1 : (w.setCell ⟨ba, 0, none⟩ (.int .i64 k)).cell? ⟨ba, 0, none⟩ = some (.int .i64 k) := World.cell?_setCell_same _ _ _ hA
  have c2 : (w.setCell ⟨ba, 0, none⟩ (.int .i64 k)).cell? ⟨bo, 0, none⟩ = some (.slice (some ⟨g, 0, none⟩) L L) := by
    rw [World.cell?_setCell_other _ _ _ _ (by intro e; cases e; exact hne rfl)]; exact hO
  have c3 : (w.setCell ⟨ba, 0, none⟩ (.int .i64 k)).cell? ⟨g, k, none⟩ = some (.int .i64 y) := by
    rw [World.cell?_setCell_other _ _ _ _ (by intro e; cases e; exact hg rfl)]; exact hcy
  have c4 : (w.setCell ⟨ba, 0, none⟩ (.int .i64 k)).frozen? ⟨g, k, none⟩ = false := by rw [World.frozen?_setCell]; exact hfz
  have hLb : L ≤ 100 := by omega
  have E1 := Lib.hid e1
  clear hown hy e1 hn hk hL
  go_enter Tryd.func49, Tryd.ntmps49
  go_wp2
  exact bodyPost_end (results_none rfl _ _ _) rfl ⟨⟨_, rfl⟩, rfl⟩

/-- what holds at each round of Path -/
structure PathI (n g B M : Nat) (w : World) (k : Nat) (W : World) : Prop where
  out : W.cell? ⟨M, 0, none⟩ = some (.slice (some ⟨g, 0, none⟩) (n.log2 + 1) (n.log2 + 1))
  at' : W.cell? ⟨M + 1, 0, none⟩ = some (.int .i64 ((n.log2 + 1 : Nat) - (k : Nat) : Int))
  fz : W.frozen? ⟨M + 1, 0, none⟩ = false
  put : W.cell? ⟨M + 2, 0, none⟩ = some (.func (.func 49) #[] #[.pointer (some ⟨M + 1, 0, none⟩), .pointer (some ⟨M, 0, none⟩)])
  own : W.ownsRow B 3 1 (.slice (some ⟨g, 0, none⟩) (n.log2 + 1) (n.log2 + 1)) (pthTo n k).length ((pthTo n k).map (Value.int .i64))
  bel : Below B w W

/-- a call that hands back a new row of ints and an error -/
def FreshInts2 (w : World) (xs : List Int) (x : Value) (e : Ending) (w' : World) : Prop :=
  ∃ v, e = .returned (.tuple #[v, x]) ∧ w'.ownsRow w.heap.size 3 1 v xs.length (xs.map (Value.int .i64)) ∧ Below w.heap.size w w'

set_option maxHeartbeats 400000 in
theorem Path_any (l n : Int) (w : World) :
    Calls Tryd.prog 29 #[.int .i64 l, .int .i64 n] w (FreshInts2 w (ptR l n) (.int .i64 (ndE l n))) := by
  by_cases h : ndE l n = 0
  · obtain ⟨h1, h2, h3, h4⟩ := ndE_zero h
    obtain ⟨N, rfl⟩ := Int.eq_ofNat_of_zero_le (show 0 ≤ n by omega)
    have hb := (pow_bdI l h2).2
    have hN : N < 16384 := by omega
    have hN1 : 1 ≤ N := by omega
    have hr : ptR l N = pthTo N (N.log2 + 1) := by rw [ptR, h, pthTo_all N hN1]; rfl
    have hw := fun w => node_any l N w
    rw [h] at hw
    rw [h, hr]
    have hlog : N.log2 < 14 := log2_lt_of (by omega) (by omega)
    have HW := Lib.hid hw
    have HL := Lib.hid (fun w => Len_ok N (by omega) (by omega) w)
    clear hw h hr h4 hb h3 h1 h2
    refine calls_of_wp_m Tryd.func29 rfl ?_
    simp only [Tryd.ntmps29, List.size_toArray, List.length_cons, List.length_nil, Nat.reduceAdd, Nat.reduceSub, Array.replicate_succ, Array.replicate_zero, List.push_toArray, List.append_toArray, List.nil_append, List.cons_append]
    go_wp2_with fail
    refine (HW.out _).mono ?_
    rintro e w' ⟨rfl, rfl⟩
    go_wp2_with fail
    refine (HL.out _).mono ?_
    rintro e w' ⟨rfl, rfl⟩
    simp only [Int.toNat_natCast]
    go_wp2_with (at_make; refine wpl_make_ints (.tmp 19) (.tmp 19) w.heap.size (N.log2 + 1) _ rfl (by omega) (Nat.le_refl _) rfl rfl rfl rfl ?_; intro g w1 hg hown hbel)
    refine (up_ok N _).mono ?_
    rintro e w2 ⟨rfl, rfl⟩
    have hglt := (hown.lt g rfl).2
    have HO := Lib.hid hown
    have HB := Lib.hid hbel
    clear hown hbel
    go_wp2
    refine wp_range_s (xs := upRows N) (Kp := fun W W' => W'.heap[w1.heap.size + 3]? = W.heap[w1.heap.size + 3]?) (Sw := UpSw (w1.heap.size + 3)) rfl (enters_of Tryd.func67 (by kernel_rfl) rfl)
      (up1_iter N hN1 hN (w1.heap.size + 3) _ ?cbox ?cfz) UpSw.keeps (Below.refl _ _) (fun _ => rfl) (fun h k => k.trans h) ?kb rows_ps
      (PathI N g w.heap.size w1.heap.size w) (fun _ _ => False) ?hI (fun _ _ _ h _ => h) ?hIS (fun _ _ _ h _ => h) ?h0 ?round ?done (fun _ _ _ _ h _ => h.elim)
    case cbox => ((try simp (disch := first | omega | (simp only [World.size_alloc] <;> omega) | fail) only [World.cell?_alloc_past, World.cell?_alloc_at, World.frozen?_alloc_past, World.frozen?_alloc_at]) <;> rfl)
    case cfz => ((try simp (disch := first | omega | (simp only [World.size_alloc] <;> omega) | fail) only [World.cell?_alloc_past, World.cell?_alloc_at, World.frozen?_alloc_past, World.frozen?_alloc_at]) <;> rfl)
    case kb =>
      intro W l o o' hl _ _
      simp at hl
      exact World.putObj_heap_other (by omega)
    case hI =>
      intro k W W' hi hc
      have := HB.out.size
      exact ⟨hc.cell hi.out, hc.cell hi.at', hc.frozen hi.at' hi.fz, hc.cell hi.put, hc.owns hi.own, hc.below (by simp; omega) hi.bel⟩
    case hIS =>
      rintro k W W' hi ⟨v, rfl⟩
      have := HB.out.size
      exact ⟨by rw [World.cell?_setCell_other _ _ _ _ (by intro e; simp at e)]; exact hi.out, by rw [World.cell?_setCell_other _ _ _ _ (by intro e; simp at e)]; exact hi.at', by rw [World.frozen?_setCell]; exact hi.fz,
        by rw [World.cell?_setCell_other _ _ _ _ (by intro e; simp at e)]; exact hi.put, owns_other hi.own _ _ (fun k hk => by have := (HO.out.lt k hk).2; show k ≠ w1.heap.size + 3; omega), hi.bel.setCell (by show w.heap.size ≤ w1.heap.size + 3; omega) _⟩
    case h0 =>
      have := HB.out.size
      refine ⟨by ((try simp (disch := first | omega | (simp only [World.size_alloc] <;> omega) | fail) only [World.cell?_alloc_past, World.cell?_alloc_at, World.frozen?_alloc_past, World.frozen?_alloc_at]) <;> rfl), by ((try simp (disch := first | omega | (simp only [World.size_alloc] <;> omega) | fail) only [World.cell?_alloc_past, World.cell?_alloc_at, World.frozen?_alloc_past, World.frozen?_alloc_at]) <;> rfl), by ((try simp (disch := first | omega | (simp only [World.size_alloc] <;> omega) | fail) only [World.cell?_alloc_past, World.cell?_alloc_at, World.frozen?_alloc_past, World.frozen?_alloc_at]) <;> rfl), by ((try simp (disch := first | omega | (simp only [World.size_alloc] <;> omega) | fail) only [World.cell?_alloc_past, World.cell?_alloc_at, World.frozen?_alloc_past, World.frozen?_alloc_at]) <;> rfl), ?_, ?_⟩
      · exact (((HO.out.alloc _).alloc _).alloc _).alloc _
      · exact (((HB.out.alloc (by omega) _).alloc (by simp; omega) _).alloc (by simp; omega) _).alloc (by simp; omega) _
    case round =>
      intro l k W hl hk hi
      rw [upRows_length] at hk
      rw [upRows_get hN1 (by omega)]
      gi_wp2
      refine ⟨rfl, ?_⟩
      intro W2 hi2
      obtain ⟨hout, hat, hfz, hput, hown, hbel⟩ := hi2
      have hz := HB.out.size
      obtain ⟨j, hj⟩ : ∃ j, N.log2 = j + k := ⟨N.log2 - k, by omega⟩
      have hat2 : W2.cell? ⟨w1.heap.size + 1, 0, none⟩ = some (.int .i64 ((j + 1 : Nat) : Int)) := by
        rw [hat]; congr 2; omega
      have hcall := put_ok ((N / 2 ^ k : Nat) : Int) (w1.heap.size + 1) w1.heap.size g (N.log2 + 1) j (pthTo N k) w.heap.size W2 hat2 hfz hout (by omega) (by rw [pthTo_length]; omega) (by rw [pthTo_length]; omega) (by omega) hown
      have HC := Lib.hid hcall
      have HI := Lib.hid (And.intro hbel (And.intro hown (And.intro hat2 (And.intro hfz hout))))
      have HJ := Lib.hid hj
      clear hbel hi hown hcall hat hat2 hj
      gi_wp2_with fail
      refine ⟨trivial, rfl, (callsIn_wide.2 HC.out).mono ?_⟩
      rintro e w' ⟨⟨v, rfl⟩, rfl⟩
      gi_wp2
      obtain ⟨hbel, hown, hat2, hfz, hout⟩ := HI.out
      have hj := HJ.out
      have hne1 : w1.heap.size + 3 ≠ w1.heap.size + 1 := by omega
      have hown2 := owns_other hown ⟨w1.heap.size + 1, 0, none⟩ (.int .i64 j) (fun k hk => by have := (HO.out.lt k hk).2; show k ≠ w1.heap.size + 1; omega)
      obtain ⟨-, -, hst⟩ := ints_cell hown2 (j := j) (by rw [pthTo_length]; omega)
      refine ⟨(KeepsOthers.setCell _ _ _).trans (KeepsOthers.setCell _ _ _), (Below.heap_setCell _ _ _ _ (by show w1.heap.size + 3 ≠ g; omega)).trans (Below.heap_setCell _ _ _ _ hne1), ⟨?_, ?_, ?_, ?_, ?_, ?_⟩⟩
      · rw [World.cell?_setCell_other _ _ _ _ (by intro e; simp at e <;> omega), World.cell?_setCell_other _ _ _ _ (by intro e; simp at e)]; exact hout
      · rw [World.cell?_setCell_other _ _ _ _ (by intro e; simp at e <;> omega), World.cell?_setCell_same _ _ _ hat2]; congr 2; omega
      · rw [World.frozen?_setCell, World.frozen?_setCell]; exact hfz
      · rw [World.cell?_setCell_other _ _ _ _ (by intro e; simp at e <;> omega), World.cell?_setCell_other _ _ _ _ (by intro e; simp at e)]; exact hput
      · rw [pthTo, show N.log2 - k = j by omega]; exact hst _
      · exact (hbel.setCell (by show w.heap.size ≤ w1.heap.size + 1; omega) _).setCell (by exact hg) _
    case done =>
      intro D W hD hi hK
      rw [upRows_length] at hi
      have hcb := hi.out
      have hz := HB.out.size
      simp at hD
      go_wp2
      refine postM_one hK (results_tmp2 rfl _ _ _) ⟨_, rfl, ?_, ?_⟩
      · have := hi.own
        rw [pthTo_length] at this ⊢
        exact (Calm.putObj (B := 0) _ (Nat.zero_le _) hK rfl).owns this
      · exact (Calm.putObj (B := w.heap.size) _ (by omega) hK rfl).below (Nat.le_refl _) hi.bel
  · have h2 := ndE_no h
    have hr : ptR l n = [] := by rw [ptR, h2]; rfl
    rw [hr, h2]
    have hw := fun w => node_any l n w
    rw [h2] at hw
    have HW := Lib.hid hw
    clear h h2 hw hr
    refine calls_of_wp_m Tryd.func29 rfl ?_
    simp only [Tryd.ntmps29, List.size_toArray, List.length_cons, List.length_nil, Nat.reduceAdd, Nat.reduceSub, Array.replicate_succ, Array.replicate_zero, List.push_toArray, List.append_toArray, List.nil_append, List.cons_append]
    go_wp2_with fail
    refine (HW.out _).mono ?_
    rintro e w' ⟨rfl, rfl⟩
    go_wp2
    exact postM_none (results_tmp2 rfl _ _ _) ⟨_, rfl, World.ownsRow_nil _ _ _ _, Below.refl _ _⟩
end
end Go.Proofs.YtfmoghjddfjfmaaDoor
