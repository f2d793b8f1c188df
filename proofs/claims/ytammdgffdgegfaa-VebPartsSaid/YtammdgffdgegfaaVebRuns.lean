/- How many runs a path goes through: plain facts, and what a map of runs tells of it. -/
import Derived.Test.YtammdgffdgegfaaVebFns
import Derived.Maps.OwnOps
import Derived.Maps.OwnSet
namespace Go.Proofs.Ytammdgffdgegfaa
open Go.RowKit Go.Shelf Go.Maps
set_option linter.unusedVariables false
set_option linter.unusedSimpArgs false

/-- how many different numbers the first k are -/
def nearN (vs : List Int) : Nat → Nat
  | 0 => 0
  | k + 1 => nearN vs k + if (vs.take k).contains (vs.getD k 0) then 0 else 1
theorem nearN_le (vs : List Int) (k : Nat) : nearN vs k ≤ k := by
  induction k with
  | zero => exact Nat.le_refl _
  | succ k ih => rw [nearN]; split <;> omega
/-- the runs of a path, node by node -/
def runsOf (L n : Nat) (run : Int) : List Int := (pth n).map fun x => (vpos L x : Int) / run
theorem runsOf_length (L n : Nat) (run : Int) : (runsOf L n run).length = n.log2 + 1 := by simp [runsOf, pth_length]
theorem runsOf_get {L n k : Nat} {run : Int} (h : k < n.log2 + 1) : (runsOf L n run).getD k 0 = (vpos L ((pth n).getD k 0) : Int) / run := by
  have hk : k < (pth n).length := by rw [pth_length]; exact h
  simp [runsOf, List.getD_eq_getElem?_getD, List.getElem?_map, List.getElem?_eq_getElem hk]
theorem take_contains_succ (vs : List Int) (k : Nat) (hk : k < vs.length) (q : Int) : (vs.take (k + 1)).contains q = ((vs.take k).contains q || (q == vs.getD k 0)) := by
  rw [List.take_succ_eq_append_getElem hk, List.contains_eq_any_beq, List.any_append, ← List.contains_eq_any_beq]
  simp [List.getD_eq_getElem?_getD, hk]

def nrE (l n run : Int) : Int := if ndE l n = 0 ∧ 1 ≤ run then 0 else 2
def nrR (l n run : Int) : Int := if nrE l n run = 0 then (nearN (runsOf l.toNat n.toNat run) (n.toNat.log2 + 1) : Nat) else 0

/-- a map of the runs that were met -/
structure Met {H : Type} (vs : List Int) (k : Nat) (D : DataW H) : Prop where
  tidy : Maps.Tidy D
  size : Maps.size D = nearN vs k
  has : ∀ q : Int, Maps.has D (.int .i64 q) = (vs.take k).contains q
theorem Met.zero {H : Type} (vs : List Int) : Met (H := H) vs 0 (.map []) :=
  ⟨Maps.tidy_empty, rfl, fun q => by simp [Maps.has_eq]⟩
theorem Met.put {H : Type} {vs : List Int} {k : Nat} {D : DataW H} (h : Met vs k D) (hk : k < vs.length) (d : DataW H) : Met vs (k + 1) (D.put (.int .i64 (vs.getD k 0)) d) := by
  have hkey : WideAt.IsKeyLit (.int .i64 (vs.getD k 0)) := trivial
  refine ⟨h.tidy.put hkey d, ?_, fun q => ?_⟩
  · rw [Maps.size_put h.tidy, h.size, h.has, nearN]
    split <;> rfl
  · rw [take_contains_succ _ _ hk]
    by_cases e : q = vs.getD k 0
    · subst e
      rw [Maps.has_put_same h.tidy.isMap hkey]; simp
    · rw [Maps.has_put_other (by intro e2; cases e2; exact e rfl), h.has]
      have : (q == vs.getD k 0) = false := by simpa using e
      rw [this, Bool.or_false]
theorem i64_wf {x : Int} (h0 : 0 ≤ x) (h1 : x ≤ 9223372036854775807) : (Lit.int .i64 x).wf = true := by
  simp only [Lit.wf, IntKind.min, IntKind.max, IntKind.signed, IntKind.bits, Bool.and_eq_true, decide_eq_true_eq, if_true]
  omega

theorem ownsMap_below {H : Type} {P : Program} {w w' : World} {k : TypeId} {R : Value → Option (DataW H × List MemPlace)} {b n : Nat} {D : DataW H} (h : w.ownsMap P k R b n D) (hb : Below w.heap.size w w') : w'.ownsMap P k R b n D := by
  have hlt := h.lt
  obtain ⟨es, clock, hbl, F, hs, hD⟩ := h
  exact ⟨es, clock, (hb.block b hlt).trans hbl, F, hs, hD⟩

theorem IsInts.grown {w w' : World} {a : Option Addr} {xs : List Int} {row : Option Nat} (h : IsInts w a xs) (hg : w.grownBy w' row) (hne : ∀ x, a = some x → some x.block ≠ row) : IsInts w' a xs := by
  intro i hi
  obtain ⟨b, off, ha, hlt, hc⟩ := h i hi
  refine ⟨b, off, ha, Nat.lt_of_lt_of_le hlt hg.size, fun j hj => ?_⟩
  rw [World.cell?_of_block (w := w) (hg.block b hlt (hne _ ha))]
  exact hc j hj

theorem keyed_int : Maps.Keyed Try.prog 3 := Maps.int_keyed Try.underlying3
theorem zero_int (w : World) : (zeroValue 3).run Try.prog w = .ok (.int .i64 0) w := by kernel_rfl

set_option maxHeartbeats 2000000 in
set_option maxRecDepth 100000 in
theorem Near_ok (L N : Nat) (run : Int) (h : ndE L N = 0) (hr : 1 ≤ run) (w : World) :
    Calls Try.prog 21 #[.int .i64 L, .int .i64 N, .int .i64 run] w (Gives w (.tuple #[.int .i64 (nearN (runsOf L N run) (N.log2 + 1) : Nat), .int .i64 0])) := by
  obtain ⟨h1, h2, h3, h4⟩ := ndE_zero h
  obtain ⟨hp1, hp2⟩ := pow_bdI L h2
  have hN14 : N.log2 < 14 := log2_lt_of (by omega) (by omega)
  have hx : ptR L N = ints (pth N) := by rw [ptR, h]; rfl
  have P := fun w => Path_any L N w
  rw [hx, h] at P
  have hlen : (ints (pth N)).length = N.log2 + 1 := by rw [ints_length, pth_length]
  have V : ∀ k x, k < (ints (pth N)).length → (ints (pth N)).getD k 0 = x → ∃ y : Nat, y ≤ 16384 ∧ (runsOf L N run).getD k 0 = (y : Int) / run ∧ ∀ w, Calls Try.prog 13 #[.int .i64 L, .int .i64 x] w (Gives w (.tuple #[.int .i64 y, .int .i64 0])) := by
    intro k x hk hgx
    have e1 := pth_get N (by omega) (N.log2 - k) (by omega)
    rw [show N.log2 - (N.log2 - k) = k by omega] at e1
    rw [getD_ints] at hgx
    have hle : (pth N).getD k 0 ≤ N := by rw [e1]; exact Nat.div_le_self _ _
    have hge : 1 ≤ (pth N).getD k 0 := by rw [e1]; exact (half_pos (by omega)).1 (by omega)
    have hnd : ndE L ((pth N).getD k 0 : Nat) = 0 := ndE_ok h1 h2 (by omega) (by omega)
    have hv := runsOf_get (L := L) (n := N) (k := k) (run := run) (by omega)
    refine ⟨vpos L ((pth N).getD k 0), ?_, hv, ?_⟩
    · have hc : ((2 ^ L : Nat) : Int) = 2 ^ L := by push_cast; rfl
      simp only [Int.toNat_natCast] at h4 hp2
      have := (vpos_lay (L := L) (n := (pth N).getD k 0) (by omega) hge (by omega)).1
      omega
    · intro w
      have := Place_any L x w
      rw [← hgx, vpR, hnd, if_pos rfl] at this
      rw [← hgx]
      simpa using this
  have hlv := runsOf_length L N run
  generalize ints (pth N) = xs at *
  generalize runsOf L N run = vs at *
  generalize N.log2 = d at *
  have P := Lib.hid P
  have V := Lib.hid V
  have HL := Lib.hid (And.intro hlen hlv)
  have hl3 : xs.length ≤ 14 := by omega
  have hmm := @run_makeMap Try.prog
  clear h hx h4 hp1 hp2 hlen hlv
  go_enter Try.func21, Try.ntmps21
  go_wp2_with fail
  refine (P.out _).mono ?_
  rintro e w1 ⟨v1, rfl, ho1, hb1⟩
  obtain ⟨a1, c1, rfl, hi1, -⟩ := ints_of_owns ho1
  have HI1 := Lib.hid hi1
  have hz1 := hb1.size
  have HB1 := Lib.hid hb1
  clear ho1 hi1 hb1
  go_wp2
  go_loopg [29] xs.length (fun g i wr => ∃ (k : Nat) (D : DataW Unit), k + g = xs.length ∧ i = .int .i64 k ∧ Met vs k D ∧ Hid (wr.ownsMap Try.prog 3 (plainElem Try.prog 3) w1.heap.size k D) ∧ Hid (IsInts wr a1 xs) ∧ Hid (Below w.heap.size w wr))
  case atStart => exact ⟨0, .map [], by omega, rfl, Met.zero _, Lib.hid (World.ownsMap_made _ _ _ _), Lib.hid (HI1.out.below ((Below.refl _ _).alloc (Nat.le_refl _) _)), Lib.hid (HB1.out.alloc hz1 _)⟩
  case round =>
    obtain ⟨k, D, hk, rfl, hm, hown, hi, hbel⟩ := hrel
    have HM := Lib.hid hm
    clear hm
    by_cases hlt : k < xs.length
    · obtain ⟨b1, o1, x, rfl, hxk, hc, _⟩ := hi.out.get hlt
      obtain ⟨y, hy, hvk, HP⟩ := V.out k x hlt hxk.out
      have HP := Lib.hid HP
      have HV := Lib.hid hvk
      clear hvk hmm
      have hzw := hbel.out.size
      go_wp2_with fail
      refine (HP.out _).mono ?_
      rintro e w5 ⟨rfl, hb5⟩
      have hi5 := Lib.hid (hi.out.below hb5)
      have hbel5 := Lib.hid (hbel.out.trans (hb5.mono hzw))
      have hown5 : w5.ownsMap Try.prog 3 (plainElem Try.prog 3) w1.heap.size k D := by
        exact ownsMap_below hown.out hb5
      have hz5 := hb5.size
      have hq0 : 0 ≤ (y : Int) / run := Int.ediv_nonneg (by omega) (by omega)
      have hq1 : (y : Int) / run ≤ 16384 := Int.le_trans (Int.ediv_le_self _ (by omega)) (by omega)
      have hkey : keyOf Try.prog 3 (.int .i64 ((y : Int) / run)) = some (.int .i64 ((y : Int) / run)) := keyOf_int_mk Try.underlying3 (i64_wf hq0 (by omega))
      go_wp2_with (first
        | (at_lookup; refine wpList_lookup_own_int _ rfl _ _ 57 rfl 3 3 .i64 keyed_int Try.underlying57 Try.underlying3 (zero_int _) w1.heap.size k _ rfl hown5 _ _ rfl hkey ?_; intro c hat hwc)
        | (at_mapUpdate; refine wpList_mapUpdate_own _ rfl _ _ _ 57 rfl 3 3 keyed_int Try.underlying57 _ w1.heap.size k _ rfl hown5 (by unfold maxLen; omega) _ _ _ rfl rfl hkey _ [] (plainElem_int Try.underlying3 (wrap64_wf _)) ?_; intro w6 hown6 hgrow6))
      go_roundg (gk - 1)
      case measure => omega
      case rel =>
        refine ⟨k + 1, _, by omega, by go_num, ?_, Lib.hid hown6, ?_, ?_⟩
        · have := HM.out.put (d := (.lit (.int .i64 (wrap64 (c + 1))))) (by have := HL.out; omega)
          rw [HV.out] at this
          exact this
        · obtain ⟨b2, o2, x2, e2, _, _, hbl⟩ := HI1.out.get hlt
          cases e2
          exact Lib.hid (hi5.out.grown hgrow6 (fun z hz => by cases hz; simp; omega))
        · exact Lib.hid (hbel5.out.grown hgrow6 (by have := hbel5.out.size; omega) (fun j hj => by cases hj; exact hz1))
    · go_wp2_with (at_len; refine wpList_len_own _ rfl _ 57 rfl 3 3 Try.underlying57 _ w1.heap.size k _ rfl hown.out ?_)
      go_ret2
      have : k = d + 1 := by have := HL.out; omega
      exact ⟨by rw [HM.out.size, this]; rfl, hbel.out⟩
end Go.Proofs.Ytammdgffdgegfaa
