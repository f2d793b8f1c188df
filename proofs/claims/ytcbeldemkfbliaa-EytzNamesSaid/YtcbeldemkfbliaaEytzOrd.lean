/- The walk of eytz.Order. -/
import Derived.Test.YtcbeldemkfbliaaEytzIt
namespace Go.Proofs.Ytcbeldemkfbliaa
open Go.RowKit Go.Shelf
attribute [local go_sem] Oper.semAt_some
set_option linter.unusedVariables false

theorem places_ok (n : Nat) (w : World) :
    Calls Try.prog 22 #[.int .i64 n] w fun e w' => e = .returned (.func (.func 29) #[] #[.pointer (some ⟨w.heap.size, 0, none⟩)]) ∧ w.alloc (.cells #[.int .i64 n] 3) = w' := by
  go_enter Try.func22, Try.ntmps22
  go_wp2
  go_ret
  exact ⟨rfl, rfl⟩

def FreshInts2 (w : World) (xs : List Int) (x : Value) (e : Ending) (w' : World) : Prop :=
  ∃ v, e = .returned (.tuple #[v, x]) ∧ w'.ownsRow w.heap.size 3 1 v xs.length (xs.map (Value.int .i64)) ∧ Below w.heap.size w w'

structure OrdI (n g bo B : Nat) (w : World) (k : Nat) (W : World) : Prop where
  box : W.cell? ⟨bo, 0, none⟩ = some (.slice (some ⟨g, 0, none⟩) n n)
  own : W.ownsRow B 3 1 (.slice (some ⟨g, 0, none⟩) n n) (rankTo n (ord n 0) k).length ((rankTo n (ord n 0) k).map (Value.int .i64))
  bel : Below B w W
theorem OrdI.calm {n g bo B M : Nat} {w : World} {k : Nat} {W W' : World} (h : OrdI n g bo B w k W) (hc : Calm M W W') (hB : B ≤ M) : OrdI n g bo B w k W' :=
  ⟨hc.cell h.box, hc.owns h.own, hc.below hB h.bel⟩

set_option maxHeartbeats 400000 in
theorem Order_ok (n : Nat) (ni : Int) (hni : ni = n) (h1 : n ≤ 65536) (w : World) :
    Calls Try.prog 8 #[.int .i64 ni] w (FreshInts2 w (rnk n) (.int .i64 0)) := by
  subst hni
  refine calls_of_wp_m Try.func8 rfl ?_
  simp only [Try.ntmps8, List.size_toArray, List.length_cons, List.length_nil, Nat.reduceAdd, Nat.reduceSub, Array.replicate_succ, Array.replicate_zero, List.push_toArray, List.append_toArray, List.nil_append, List.cons_append]
  go_wp2_with (first
    | (go_at_call 21; refine (asked_ok _ (by omega) (by omega) _).mono ?_; rintro e w' ⟨rfl, rfl⟩)
    | (at_make; refine wpl_make_ints (.tmp 13) (.tmp 13) w.heap.size n _ rfl (by omega) (Nat.le_refl _) rfl rfl rfl rfl ?_; intro g w1 hg hown hbel))
  refine (places_ok n _).mono ?_
  rintro e w2 ⟨rfl, rfl⟩
  have hglt := (hown.lt g rfl).2
  have HO := Lib.hid hown
  have HB := Lib.hid hbel
  clear hown hbel
  go_wp2
  refine wp_range (xs := ordPairs n) (Kp := fun W W' => W'.heap[w1.heap.size + 1]? = W.heap[w1.heap.size + 1]?) rfl (enters_of Try.func29 (by kernel_rfl) rfl)
    (places1_iter n h1 (w1.heap.size + 1) _ ?cbox) (Below.refl _ _) (fun h k => k.trans h) ?kb ?ps
    (OrdI n g w1.heap.size w.heap.size w) (fun _ _ => False) ?hI (fun _ _ _ h _ => h) ?h0 ?round ?done (fun _ _ _ _ h _ => h.elim)
  case cbox => simp
  case kb =>
    intro W l o o' hl _ _
    simp at hl
    exact World.putObj_heap_other (by omega)
  case ps =>
    intro x hx
    simp only [ordPairs, List.mem_map] at hx
    obtain ⟨k, _, rfl⟩ := hx
    rfl
  case hI =>
    intro k W W' h hc
    have := HB.out.size
    exact h.calm hc (by simp; omega)
  case h0 =>
    have := HB.out.size
    exact ⟨by simp, by have := (HO.out.alloc (.cells #[.slice (some ⟨g, 0, none⟩) n n] 22)).alloc (.cells #[.int .i64 n] 3); simpa [rankTo] using this, (HB.out.alloc (by omega) _).alloc (by simp; omega) _⟩
  case round =>
    intro l k W hl hk hi
    rw [ordPairs_length] at hk
    rw [ordPairs_get hk]
    have hx := ord_lt hk
    obtain ⟨x, hxe⟩ : ∃ x, (ord n 0).getD k 0 = x := ⟨_, rfl⟩
    rw [hxe] at hx ⊢
    gi_wp2
    refine ⟨rfl, ?_⟩
    intro W2 hi2
    have hcb := hi2.box
    obtain ⟨⟨y, hy, hcy⟩, hfz, hst⟩ := ints_cell hi2.own (j := x) (by rw [rankTo_length]; exact hx)
    have HX := Lib.hid hxe
    clear hxe
    gi_wp2
    refine ⟨KeepsOthers.setCell _ _ _, Below.heap_setCell _ _ _ _ (by show w1.heap.size + 1 ≠ g; omega), ⟨?_, ?_, ?_⟩⟩
    · rw [World.cell?_setCell_other _ _ _ _ (by intro e; cases e; omega)]; exact hcb
    · rw [rankTo, HX.out]; exact hst k
    · exact hi2.bel.setCell (by exact hg) _
  case done =>
    intro D W hD hi hK
    have hcb := hi.box
    go_wp2
    refine postM_one hK (results_tmp2 rfl _ _ _) ⟨_, rfl, ?_, ?_⟩
    · have := hi.own
      rw [ordPairs_length] at this
      exact (Calm.putObj (B := 0) _ (Nat.zero_le _) hK rfl).owns this
    · have h5 := HB.out.size
      simp at hD
      exact (Calm.putObj (B := w.heap.size) _ (by omega) hK rfl).below (Nat.le_refl _) hi.bel
theorem Order_neg (n : Int) (h : n < 0) (w : World) :
    Calls Try.prog 8 #[.int .i64 n] w fun e w' => e = .returned (.tuple #[.slice none 0 0, .int .i64 2]) ∧ w = w' := by
  refine calls_of_wp_m Try.func8 rfl ?_
  simp only [Try.ntmps8, List.size_toArray, List.length_cons, List.length_nil, Nat.reduceAdd, Nat.reduceSub, Array.replicate_succ, Array.replicate_zero, List.push_toArray, List.append_toArray, List.nil_append, List.cons_append]
  go_wp2_with (go_at_call 21; refine (asked_neg _ h _).mono ?_; rintro e w' ⟨rfl, rfl⟩)
  exact postM_none (results_tmp2 rfl _ _ _) ⟨rfl, rfl⟩
theorem Order_many (n : Int) (h : 65536 < n) (w : World) :
    Calls Try.prog 8 #[.int .i64 n] w fun e w' => e = .returned (.tuple #[.slice none 0 0, .int .i64 4]) ∧ w = w' := by
  refine calls_of_wp_m Try.func8 rfl ?_
  simp only [Try.ntmps8, List.size_toArray, List.length_cons, List.length_nil, Nat.reduceAdd, Nat.reduceSub, Array.replicate_succ, Array.replicate_zero, List.push_toArray, List.append_toArray, List.nil_append, List.cons_append]
  go_wp2_with (go_at_call 21; refine (asked_many _ h _).mono ?_; rintro e w' ⟨rfl, rfl⟩)
  exact postM_none (results_tmp2 rfl _ _ _) ⟨rfl, rfl⟩
end Go.Proofs.Ytcbeldemkfbliaa
