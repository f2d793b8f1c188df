/- The walk of the reference's Leaves. -/
import Derived.Test.YtfmoghjddfjfmaaIdxAll
import Derived.Test.YtfmoghjddfjfmaaHeapFirst
import Derived.Test.YtfmoghjddfjfmaaFact
import Derived.Test.YtfmoghjddfjfmaaDownLaw
namespace Go.Proofs.Ytfmoghjddfjfmaa
open Go.RowKit
set_option linter.unusedVariables false
set_option linter.unusedSimpArgs false

/-- a row of one's own, whole -/
def Fact.whole {T : TypeId} (base : Nat) (e : TypeId) (he : e ≠ T) (s n : Nat) (xs : List Value) : Fact T :=
  ⟨fun v w => ∃ g, v = .slice (some ⟨g, 0, none⟩) n n ∧ w.ownsRow base e s (.slice (some ⟨g, 0, none⟩) n n) n xs, fun _ _ _ h ⟨g, e1, k⟩ => ⟨g, e1, h.owns he k⟩⟩
/-- the end of such a row -/
def Fact.tail {T : TypeId} (base : Nat) (e : TypeId) (he : e ≠ T) (s n lo m : Nat) (xs : List Value) : Fact T :=
  ⟨fun v w => ∃ g, v = .slice (some ⟨g, lo, none⟩) m m ∧ w.ownsRow base e s (.slice (some ⟨g, 0, none⟩) n n) n xs, fun _ _ _ h ⟨g, e1, k⟩ => ⟨g, e1, h.owns he k⟩⟩

set_option maxRecDepth 100000 in
set_option maxHeartbeats 1000000 in
theorem Leaves_ok (L N F : Nat) (l : Int) (hl : l = L) (h1 : 1 ≤ L) (h2 : L ≤ 14) (hN : N + 1 = 2 ^ L) (hNF : N + 1 = 2 * F) (ma ca : Option Addr) (mc cc : Nat) (ms cs : List Int) (hlm : ms.length = N) (hlc : cs.length = N) (w : World)
    (hm : IsRow .i64 w ma ms) (hc : IsRow .i64 w ca cs) :
    Calls Try.prog 26 #[ixV l ma N mc ca N cc] w fun e w' => ∃ g, e = .returned (.slice (some ⟨g, F * 2, none⟩) F F) ∧
      w'.ownsRow (w.heap.size + 1) 56 2 (.slice (some ⟨g, 0, none⟩) (N + 1) (N + 1)) (N + 1) (nrRow (tlF L ms) (tlF L cs) (N + 1)) ∧ Below w.heap.size w w' := by
  have FI := Lib.hid (fun w => First_ok l (by omega) (by omega) w)
  have e1 : (2 : Int) ^ (l.toNat - 1) = F := by
    have : 2 ^ L = 2 * 2 ^ (L - 1) := by rw [show L = L - 1 + 1 by omega, Nat.pow_succ]; simp; omega
    have h3 : (2 : Int) ^ (l.toNat - 1) = ((2 ^ (L - 1) : Nat) : Int) := by rw [show l.toNat = L by omega]; push_cast; rfl
    rw [h3]; omega
  rw [e1] at FI
  have CA := Lib.hid (fun (W : World) (hb : Below w.heap.size w W) => All_ok L N l hl h1 h2 hN ma ca mc cc ms cs hlm hlc W (hm.below hb) (hc.below hb))
  have hNb : N + 1 ≤ 16384 := by rw [hN]; exact Nat.pow_le_pow_right (by omega) h2
  have hF0 : 0 < F := by have := Nat.two_pow_pos L; omega
  clear hm hc hlm hlc e1 hN hl h1 h2
  generalize hX : nrRow (tlF L ms) (tlF L cs) (N + 1) = X at *
  clear hX
  go_enter Try.func26, Try.ntmps26
  go_wp2
  have HS : Hid (Below w.heap.size w (w.alloc (.cells #[.int .i64 l, .slice ma N mc, .slice ca N cc] 25))) := Lib.hid ((Below.refl _ _).alloc (Nat.le_refl _) _)
  generalize hw1 : (w.alloc (.cells #[.int .i64 l, .slice ma N mc, .slice ca N cc] 25)) = wz at *
  have hz : wz.heap.size = w.heap.size + 1 := by rw [← hw1]; simp
  have f0 : wz.cell? ⟨w.heap.size, 0, none⟩ = some (.int .i64 l) := by rw [← hw1]; ((try simp (disch := first | omega | (simp only [World.size_alloc] <;> omega) | fail) only [World.cell?_alloc_past, World.cell?_alloc_at, World.frozen?_alloc_past, World.frozen?_alloc_at]) <;> rfl)
  have f1 : wz.cell? ⟨w.heap.size, 1, none⟩ = some (.slice ma N mc) := by rw [← hw1]; ((try simp (disch := first | omega | (simp only [World.size_alloc] <;> omega) | fail) only [World.cell?_alloc_past, World.cell?_alloc_at, World.frozen?_alloc_past, World.frozen?_alloc_at]) <;> rfl)
  have f2 : wz.cell? ⟨w.heap.size, 2, none⟩ = some (.slice ca N cc) := by rw [← hw1]; ((try simp (disch := first | omega | (simp only [World.size_alloc] <;> omega) | fail) only [World.cell?_alloc_past, World.cell?_alloc_at, World.frozen?_alloc_past, World.frozen?_alloc_at]) <;> rfl)
  clear hw1
  refine wp_region_facts 6 (by kernel_rfl) (N := 9) rfl (by kernel_rfl) (by kernel_rfl) (by decide) (fun w' => Below wz.heap.size wz w') (Ext 25) (factAt [
    .is (ixV l ma N mc ca N cc), .whole (wz.heap.size + 1) 56 (by decide) 2 (N + 1) X, .is (.pointer (some ⟨w.heap.size, 0, none⟩)), .is (.int .i64 l), .is (.int .i64 F), .tail (wz.heap.size + 1) 56 (by decide) 2 (N + 1) (F * 2) F X]) (factAt_stays _) (Below.refl _ _).drew ?steps ?fin
  case steps =>
    refine ⟨?o0, ?o1, ?o2, ?o3, ?o4, ?o5, trivial⟩
    case o0 =>
      intro u a w' ev hJ hd K hK
      have e1 : a.tmps.getD 1 undef = .pointer (some ⟨w.heap.size, 0, none⟩) := ev 1 (by decide)
      have g0 := (hJ.cell (p := ⟨w.heap.size, 0, none⟩) (by show w.heap.size < _; omega)).trans f0
      have g1 := (hJ.cell (p := ⟨w.heap.size, 1, none⟩) (by show w.heap.size < _; omega)).trans f1
      have g2 := (hJ.cell (p := ⟨w.heap.size, 2, none⟩) (by show w.heap.size < _; omega)).trans f2
      have HK := Lib.hid hK
      clear hK ev hd
      go_simp
      exact HK.out _ _ (fun h => by cases h) hJ rfl (Ext.refl _ _)
    case o1 =>
      intro u a w' ev hJ hd K hK
      have e3 : a.tmps.getD 3 undef = ixV l ma N mc ca N cc := (ev 3 (by decide)).trans (hd 0 _ (by kernel_rfl) rfl)
      have HK := Lib.hid hK
      have HA := Lib.hid (CA.out w' (below_via hJ HS.out (by omega)))
      have hzJ := hJ.size
      clear hK ev hd
      go_simp
      refine HA.out.mono ?_
      rintro e w'' ⟨g, rfl, ho, hb⟩
      exact HK.out _ _ (fun h => by cases h) (hJ.trans (hb.mono hzJ)) ⟨g, rfl, owns_base ho (by omega)⟩ (Ext.below hb)
    case o2 =>
      intro u a w' ev hJ hd K hK
      have e1 : a.tmps.getD 1 undef = .pointer (some ⟨w.heap.size, 0, none⟩) := ev 1 (by decide)
      have HK := Lib.hid hK
      clear hK ev hd
      go_simp
      exact HK.out _ _ (fun h => by cases h) hJ rfl (Ext.refl _ _)
    case o3 =>
      intro u a w' ev hJ hd K hK
      have e3 : a.tmps.getD 5 undef = .pointer (some ⟨w.heap.size, 0, none⟩) := (ev 5 (by decide)).trans (hd 2 _ (by kernel_rfl) rfl)
      have g0 := (hJ.cell (p := ⟨w.heap.size, 0, none⟩) (by show w.heap.size < _; omega)).trans f0
      have HK := Lib.hid hK
      clear hK ev hd
      go_simp
      exact HK.out _ _ (fun h => by cases h) hJ rfl (Ext.refl _ _)
    case o4 =>
      intro u a w' ev hJ hd K hK
      have e3 : a.tmps.getD 6 undef = .int .i64 l := (ev 6 (by decide)).trans (hd 3 _ (by kernel_rfl) rfl)
      have HK := Lib.hid hK
      have HF := Lib.hid (FI.out w')
      clear hK ev hd
      go_simp
      refine HF.out.mono ?_
      rintro e w'' ⟨rfl, rfl⟩
      exact HK.out _ _ (fun h => by cases h) hJ rfl (Ext.refl _ _)
    case o5 =>
      intro u a w' ev hJ hd K hK
      obtain ⟨g, h1, h2⟩ : (Fact.whole (T := 25) (wz.heap.size + 1) 56 (by decide) 2 (N + 1) X).holds (u 4) w' := hd 1 _ (by kernel_rfl) rfl
      have h3 : u 7 = .int .i64 F := hd 4 _ (by kernel_rfl) rfl
      have e1 : a.tmps.getD 4 undef = .slice (some ⟨g, 0, none⟩) (N + 1) (N + 1) := (ev 4 (by decide)).trans h1
      have e2 : a.tmps.getD 7 undef = .int .i64 F := (ev 7 (by decide)).trans h3
      have HK := Lib.hid hK
      have H2 := Lib.hid h2
      clear hK ev hd h1 h2 h3
      go_simp
      rw [if_pos (by omega), if_neg (by omega), show 2 * F - F = F by omega]
      go_simp
      exact HK.out _ _ (fun h => by cases h) hJ ⟨g, rfl, H2.out⟩ (Ext.refl _ _)
  case fin =>
    intro u w2 hJ hG
    obtain ⟨g, h1, h2⟩ : (Fact.tail (T := 25) (wz.heap.size + 1) 56 (by decide) 2 (N + 1) (F * 2) F X).holds (u 8) w2 := hG 5 _ rfl
    have HJ := Lib.hid hJ
    have H2 := Lib.hid h2
    clear hG h2 f0 f1 f2 hJ
    simp only [mixFrame, mixL, dstsOf, List.take_succ_cons, List.take_zero, List.filterMap_cons, List.filterMap_nil, List.contains_cons, List.contains_nil, Nat.reduceBEq, Bool.or_false, Bool.false_or, Bool.or_true, Bool.true_or, if_true, if_false, Bool.false_eq_true, Nat.reduceAdd, Nat.zero_add, List.drop_succ_cons, List.drop_zero, h1]
    go_wp2
    go_ret
    exact ⟨g, rfl, owns_base H2.out (by omega), below_via HJ.out HS.out (by omega)⟩
end Go.Proofs.Ytfmoghjddfjfmaa
