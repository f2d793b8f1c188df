/- Walks of asked, Find. -/
import Derived.Test.YtonmgmhkejbikaaTabFind
import Derived.Test.YtonmgmhkejbikaaTabLv
namespace Go.Proofs.Ytonmgmhkejbikaa
open Go.RowKit Go.Shelf
set_option linter.unusedVariables false
set_option linter.unusedSimpArgs false

/-- what asked answers: an error, or a copy -/
def AskE (gs ps : List Int) (n g at_ : Int) : Int := if may gs ps = true then (if at_ < 0 then 2 else if isH gs ps n g = true then 0 else 140) else 8
def Asked (w : World) (gs ps : List Int) (e : Ending) (w' : World) : Prop :=
  ∃ B v u, e = .returned (.tuple #[.pointer (some ⟨B, 0, none⟩), .int .i64 0]) ∧ w.heap.size ≤ B ∧ w'.heap[B]? = some (.cells #[v, u] 66) ∧
    w'.ownsRow w.heap.size 3 1 v gs.length (gs.map (Value.int .i64)) ∧ w'.ownsRow w.heap.size 3 1 u ps.length (ps.map (Value.int .i64)) ∧
    (∀ k l, v.ownBlock = some k → u.ownBlock = some l → k ≠ l) ∧ Below w.heap.size w w'

set_option maxHeartbeats 1000000 in
theorem asked_ok (ga aa : Option Addr) (gc ac : Nat) (gs ps : List Int) (n g at_ : Int) (w : World) (hg : IsInts w ga gs) (hp : IsInts w aa ps) (hm : may gs ps = true) (ht : 0 ≤ at_) (hi : isH gs ps n g = true) :
    Calls Try.prog 32 #[tabV ga gs.length gc aa ps.length ac, .agg #[.int .i64 n, .int .i64 g], .int .i64 at_] w (Asked w gs ps) := by
  obtain ⟨h1, h2⟩ := may_len hm
  rw [h1]
  have HG := Lib.hid hg
  have HP := Lib.hid hp
  have HB := Lib.hid ((((Below.refl _ w).alloc (Nat.le_refl _) (.cells #[.slice ga gs.length gc, .slice aa gs.length ac] 24)).alloc (by simp) (.cells #[.int .i64 n, .int .i64 g] 26)))
  have HC := Lib.hid (fun w' (hb : Below w.heap.size w w') => Check_ok ga aa gc ac gs ps w' (HG.out.below hb) (HP.out.below hb) (by omega) (by omega))
  rw [mayE_yes hm, h1] at HC
  have HT := Lib.hid (fun w' (hb : Below w.heap.size w w') => Twin_ok ga aa gc ac gs ps w' (HG.out.below hb) (HP.out.below hb) h2 (by omega))
  rw [h1] at HT
  have H1 := Lib.hid h1
  have HM := Lib.hid hm
  have HI := Lib.hid hi
  clear hg hp hm hi h1
  go_enter Try.func32, Try.ntmps32
  go_wp2_with fail
  refine (HC.out _ HB.out).mono ?_
  rintro e w3 ⟨rfl, hb3⟩
  have hz3 := hb3.size
  rw [World.size_alloc, World.size_alloc] at hz3
  have e0 : w3.cell? ⟨w.heap.size, 0, none⟩ = some (.slice ga gs.length gc) := (hb3.cell (p := ⟨w.heap.size, 0, none⟩) (by simp; omega)).trans (by ((try simp (disch := first | omega | (simp only [World.size_alloc] <;> omega) | fail) only [World.cell?_alloc_past, World.cell?_alloc_at, World.frozen?_alloc_past, World.frozen?_alloc_at]) <;> rfl))
  have e1 : w3.cell? ⟨w.heap.size, 1, none⟩ = some (.slice aa gs.length ac) := (hb3.cell (p := ⟨w.heap.size, 1, none⟩) (by simp; omega)).trans (by ((try simp (disch := first | omega | (simp only [World.size_alloc] <;> omega) | fail) only [World.cell?_alloc_past, World.cell?_alloc_at, World.frozen?_alloc_past, World.frozen?_alloc_at]) <;> rfl))
  have e2 : w3.cell? ⟨w.heap.size + 1, 0, none⟩ = some (.int .i64 n) := (hb3.cell (p := ⟨w.heap.size + 1, 0, none⟩) (by simp)).trans (by ((try simp (disch := first | omega | (simp only [World.size_alloc] <;> omega) | fail) only [World.cell?_alloc_past, World.cell?_alloc_at, World.frozen?_alloc_past, World.frozen?_alloc_at]) <;> rfl))
  have e3 : w3.cell? ⟨w.heap.size + 1, 1, none⟩ = some (.int .i64 g) := (hb3.cell (p := ⟨w.heap.size + 1, 1, none⟩) (by simp)).trans (by ((try simp (disch := first | omega | (simp only [World.size_alloc] <;> omega) | fail) only [World.cell?_alloc_past, World.cell?_alloc_at, World.frozen?_alloc_past, World.frozen?_alloc_at]) <;> rfl))
  have HB3 := Lib.hid (HB.out.trans (hb3.mono (by simp; omega)))
  clear hb3
  go_wp2_with fail
  refine (HT.out _ HB3.out).mono ?_
  rintro e w4 ⟨v, u, rfl, hov, hou, hne, hb4⟩
  have hz4 := hb4.size
  have i2 : w4.cell? ⟨w.heap.size + 1, 0, none⟩ = some (.int .i64 n) := (hb4.cell (p := ⟨w.heap.size + 1, 0, none⟩) (by show w.heap.size + 1 < w3.heap.size; omega)).trans e2
  have i3 : w4.cell? ⟨w.heap.size + 1, 1, none⟩ = some (.int .i64 g) := (hb4.cell (p := ⟨w.heap.size + 1, 1, none⟩) (by show w.heap.size + 1 < w3.heap.size; omega)).trans e3
  have il : w.heap.size + 1 < w4.heap.size := by omega
  have HB4 := Lib.hid (HB3.out.trans (hb4.mono (by omega)))
  obtain ⟨va, vc, rfl, hiv, _⟩ := ints_of_owns hov
  obtain ⟨ua, uc, rfl, hiu, _⟩ := ints_of_owns hou
  rw [H1.out] at hou
  rw [H1.out]
  have hO := And.intro hov (And.intro hou hne)
  have HO := Lib.hid hO
  have hc0 : ((w4.alloc (.cells #[.slice va gs.length vc, .slice ua gs.length uc] 66))).cell? ⟨w4.heap.size, 0, none⟩ = some (.slice va gs.length vc) := by ((try simp (disch := first | omega | (simp only [World.size_alloc] <;> omega) | fail) only [World.cell?_alloc_past, World.cell?_alloc_at, World.frozen?_alloc_past, World.frozen?_alloc_at]) <;> rfl)
  have hc1 : ((w4.alloc (.cells #[.slice va gs.length vc, .slice ua gs.length uc] 66))).cell? ⟨w4.heap.size, 1, none⟩ = some (.slice ua gs.length uc) := by ((try simp (disch := first | omega | (simp only [World.size_alloc] <;> omega) | fail) only [World.cell?_alloc_past, World.cell?_alloc_at, World.frozen?_alloc_past, World.frozen?_alloc_at]) <;> rfl)
  have hh := has_ok w4.heap.size va ua vc uc gs ps n g _ hc0 hc1 (hiv.alloc _) (hiu.alloc _) H1.out (by omega) (fun k hk => (okAt_facts (may_at HM.out hk)).2.2.1)
  rw [HI.out] at hh
  have HH := Lib.hid hh
  clear hh hc0 hc1 hO hov hou hne hiv hiu hb4
  go_wp2_with fail
  refine HH.out.mono ?_
  rintro e w5 ⟨rfl, hb5⟩
  have HB5 := Lib.hid hb5
  clear hb5
  go_wp2
  go_ret2
  obtain ⟨hov, hou, hne⟩ := HO.out
  have hb5 := HB5.out
  have hz5 := hb5.size
  rw [World.size_alloc] at hz5
  refine ⟨w4.heap.size, .slice va gs.length vc, .slice ua gs.length uc, rfl, by omega, ?_, ?_, ?_, ?_, ?_⟩
  · exact (hb5.block _ (by simp)).trans (World.alloc_heap_new _ _)
  · exact owns_below (owns_base (hov.alloc _) (by omega)) hb5
  · rw [H1.out]; exact owns_below (owns_base (hou.alloc _) (by omega)) hb5
  · intro k l h1 h2; exact hne k l h1 (by rw [H1.out]; exact h2)
  · exact (HB4.out.alloc (by omega) _).trans (hb5.mono (by simp; omega))

/-- the errors: no table -/
def AskNo (w : World) (x : Int) (e : Ending) (w' : World) : Prop := e = .returned (.tuple #[.pointer none, .int .i64 x]) ∧ Below w.heap.size w w'

theorem asked_bad (ga aa : Option Addr) (gc ac : Nat) (gs ps : List Int) (n g at_ : Int) (w : World) (hg : IsInts w ga gs) (hp : IsInts w aa ps) (hm : may gs ps = false) (hlg : gs.length ≤ 1000000000) (hla : ps.length ≤ 1000000000) :
    Calls Try.prog 32 #[tabV ga gs.length gc aa ps.length ac, .agg #[.int .i64 n, .int .i64 g], .int .i64 at_] w (AskNo w 8) := by
  have HG := Lib.hid hg
  have HP := Lib.hid hp
  have HB := Lib.hid ((((Below.refl _ w).alloc (Nat.le_refl _) (.cells #[.slice ga gs.length gc, .slice aa ps.length ac] 24)).alloc (by simp) (.cells #[.int .i64 n, .int .i64 g] 26)))
  have HC := Lib.hid (fun w' (hb : Below w.heap.size w w') => Check_ok ga aa gc ac gs ps w' (HG.out.below hb) (HP.out.below hb) hlg hla)
  rw [mayE_no hm] at HC
  clear hg hp hm
  go_enter Try.func32, Try.ntmps32
  go_wp2_with fail
  refine (HC.out _ HB.out).mono ?_
  rintro e w3 ⟨rfl, hb3⟩
  go_wp2
  go_ret2
  exact ⟨rfl, HB.out.trans (hb3.mono (by simp; omega))⟩
set_option maxHeartbeats 1000000 in
theorem asked_not (ga aa : Option Addr) (gc ac : Nat) (gs ps : List Int) (n g at_ : Int) (w : World) (hg : IsInts w ga gs) (hp : IsInts w aa ps) (hm : may gs ps = true) (ht : 0 ≤ at_) (hi : isH gs ps n g = false) :
    Calls Try.prog 32 #[tabV ga gs.length gc aa ps.length ac, .agg #[.int .i64 n, .int .i64 g], .int .i64 at_] w (AskNo w 140) := by
  obtain ⟨h1, h2⟩ := may_len hm
  rw [h1]
  have HG := Lib.hid hg
  have HP := Lib.hid hp
  have HB := Lib.hid ((((Below.refl _ w).alloc (Nat.le_refl _) (.cells #[.slice ga gs.length gc, .slice aa gs.length ac] 24)).alloc (by simp) (.cells #[.int .i64 n, .int .i64 g] 26)))
  have HC := Lib.hid (fun w' (hb : Below w.heap.size w w') => Check_ok ga aa gc ac gs ps w' (HG.out.below hb) (HP.out.below hb) (by omega) (by omega))
  rw [mayE_yes hm, h1] at HC
  have HT := Lib.hid (fun w' (hb : Below w.heap.size w w') => Twin_ok ga aa gc ac gs ps w' (HG.out.below hb) (HP.out.below hb) h2 (by omega))
  rw [h1] at HT
  have H1 := Lib.hid h1
  have HM := Lib.hid hm
  have HI := Lib.hid hi
  clear hg hp hm hi h1
  go_enter Try.func32, Try.ntmps32
  go_wp2_with fail
  refine (HC.out _ HB.out).mono ?_
  rintro e w3 ⟨rfl, hb3⟩
  have hz3 := hb3.size
  rw [World.size_alloc, World.size_alloc] at hz3
  have e0 : w3.cell? ⟨w.heap.size, 0, none⟩ = some (.slice ga gs.length gc) := (hb3.cell (p := ⟨w.heap.size, 0, none⟩) (by simp; omega)).trans (by ((try simp (disch := first | omega | (simp only [World.size_alloc] <;> omega) | fail) only [World.cell?_alloc_past, World.cell?_alloc_at, World.frozen?_alloc_past, World.frozen?_alloc_at]) <;> rfl))
  have e1 : w3.cell? ⟨w.heap.size, 1, none⟩ = some (.slice aa gs.length ac) := (hb3.cell (p := ⟨w.heap.size, 1, none⟩) (by simp; omega)).trans (by ((try simp (disch := first | omega | (simp only [World.size_alloc] <;> omega) | fail) only [World.cell?_alloc_past, World.cell?_alloc_at, World.frozen?_alloc_past, World.frozen?_alloc_at]) <;> rfl))
  have e2 : w3.cell? ⟨w.heap.size + 1, 0, none⟩ = some (.int .i64 n) := (hb3.cell (p := ⟨w.heap.size + 1, 0, none⟩) (by simp)).trans (by ((try simp (disch := first | omega | (simp only [World.size_alloc] <;> omega) | fail) only [World.cell?_alloc_past, World.cell?_alloc_at, World.frozen?_alloc_past, World.frozen?_alloc_at]) <;> rfl))
  have e3 : w3.cell? ⟨w.heap.size + 1, 1, none⟩ = some (.int .i64 g) := (hb3.cell (p := ⟨w.heap.size + 1, 1, none⟩) (by simp)).trans (by ((try simp (disch := first | omega | (simp only [World.size_alloc] <;> omega) | fail) only [World.cell?_alloc_past, World.cell?_alloc_at, World.frozen?_alloc_past, World.frozen?_alloc_at]) <;> rfl))
  have HB3 := Lib.hid (HB.out.trans (hb3.mono (by simp; omega)))
  clear hb3
  go_wp2_with fail
  refine (HT.out _ HB3.out).mono ?_
  rintro e w4 ⟨v, u, rfl, hov, hou, hne, hb4⟩
  have hz4 := hb4.size
  have i2 : w4.cell? ⟨w.heap.size + 1, 0, none⟩ = some (.int .i64 n) := (hb4.cell (p := ⟨w.heap.size + 1, 0, none⟩) (by show w.heap.size + 1 < w3.heap.size; omega)).trans e2
  have i3 : w4.cell? ⟨w.heap.size + 1, 1, none⟩ = some (.int .i64 g) := (hb4.cell (p := ⟨w.heap.size + 1, 1, none⟩) (by show w.heap.size + 1 < w3.heap.size; omega)).trans e3
  have il : w.heap.size + 1 < w4.heap.size := by omega
  have HB4 := Lib.hid (HB3.out.trans (hb4.mono (by omega)))
  obtain ⟨va, vc, rfl, hiv, _⟩ := ints_of_owns hov
  obtain ⟨ua, uc, rfl, hiu, _⟩ := ints_of_owns hou
  rw [H1.out] at hou
  rw [H1.out]
  have hO := And.intro hov (And.intro hou hne)
  have HO := Lib.hid hO
  have hc0 : ((w4.alloc (.cells #[.slice va gs.length vc, .slice ua gs.length uc] 66))).cell? ⟨w4.heap.size, 0, none⟩ = some (.slice va gs.length vc) := by ((try simp (disch := first | omega | (simp only [World.size_alloc] <;> omega) | fail) only [World.cell?_alloc_past, World.cell?_alloc_at, World.frozen?_alloc_past, World.frozen?_alloc_at]) <;> rfl)
  have hc1 : ((w4.alloc (.cells #[.slice va gs.length vc, .slice ua gs.length uc] 66))).cell? ⟨w4.heap.size, 1, none⟩ = some (.slice ua gs.length uc) := by ((try simp (disch := first | omega | (simp only [World.size_alloc] <;> omega) | fail) only [World.cell?_alloc_past, World.cell?_alloc_at, World.frozen?_alloc_past, World.frozen?_alloc_at]) <;> rfl)
  have hh := has_ok w4.heap.size va ua vc uc gs ps n g _ hc0 hc1 (hiv.alloc _) (hiu.alloc _) H1.out (by omega) (fun k hk => (okAt_facts (may_at HM.out hk)).2.2.1)
  rw [HI.out] at hh
  have HH := Lib.hid hh
  clear hh hc0 hc1 hO hov hou hne hiv hiu hb4
  go_wp2_with fail
  refine HH.out.mono ?_
  rintro e w5 ⟨rfl, hb5⟩
  have HB5 := Lib.hid hb5
  clear hb5
  go_wp2
  go_ret2
  have hb5 := HB5.out
  exact ⟨rfl, (HB4.out.alloc (by omega) _).trans (hb5.mono (by simp; omega))⟩

set_option maxHeartbeats 1000000 in
theorem asked_neg (ga aa : Option Addr) (gc ac : Nat) (gs ps : List Int) (n g at_ : Int) (w : World) (hg : IsInts w ga gs) (hp : IsInts w aa ps) (hm : may gs ps = true) (ht : at_ < 0) :
    Calls Try.prog 32 #[tabV ga gs.length gc aa ps.length ac, .agg #[.int .i64 n, .int .i64 g], .int .i64 at_] w (AskNo w 2) := by
  obtain ⟨h1, h2⟩ := may_len hm
  rw [h1]
  have HG := Lib.hid hg
  have HP := Lib.hid hp
  have HB := Lib.hid ((((Below.refl _ w).alloc (Nat.le_refl _) (.cells #[.slice ga gs.length gc, .slice aa gs.length ac] 24)).alloc (by simp) (.cells #[.int .i64 n, .int .i64 g] 26)))
  have HC := Lib.hid (fun w' (hb : Below w.heap.size w w') => Check_ok ga aa gc ac gs ps w' (HG.out.below hb) (HP.out.below hb) (by omega) (by omega))
  rw [mayE_yes hm, h1] at HC
  have HT := Lib.hid (fun w' (hb : Below w.heap.size w w') => Twin_ok ga aa gc ac gs ps w' (HG.out.below hb) (HP.out.below hb) h2 (by omega))
  rw [h1] at HT
  have H1 := Lib.hid h1
  have HM := Lib.hid hm
  clear hg hp hm h1
  go_enter Try.func32, Try.ntmps32
  go_wp2_with fail
  refine (HC.out _ HB.out).mono ?_
  rintro e w3 ⟨rfl, hb3⟩
  have hz3 := hb3.size
  rw [World.size_alloc, World.size_alloc] at hz3
  have e0 : w3.cell? ⟨w.heap.size, 0, none⟩ = some (.slice ga gs.length gc) := (hb3.cell (p := ⟨w.heap.size, 0, none⟩) (by simp; omega)).trans (by ((try simp (disch := first | omega | (simp only [World.size_alloc] <;> omega) | fail) only [World.cell?_alloc_past, World.cell?_alloc_at, World.frozen?_alloc_past, World.frozen?_alloc_at]) <;> rfl))
  have e1 : w3.cell? ⟨w.heap.size, 1, none⟩ = some (.slice aa gs.length ac) := (hb3.cell (p := ⟨w.heap.size, 1, none⟩) (by simp; omega)).trans (by ((try simp (disch := first | omega | (simp only [World.size_alloc] <;> omega) | fail) only [World.cell?_alloc_past, World.cell?_alloc_at, World.frozen?_alloc_past, World.frozen?_alloc_at]) <;> rfl))
  have e2 : w3.cell? ⟨w.heap.size + 1, 0, none⟩ = some (.int .i64 n) := (hb3.cell (p := ⟨w.heap.size + 1, 0, none⟩) (by simp)).trans (by ((try simp (disch := first | omega | (simp only [World.size_alloc] <;> omega) | fail) only [World.cell?_alloc_past, World.cell?_alloc_at, World.frozen?_alloc_past, World.frozen?_alloc_at]) <;> rfl))
  have e3 : w3.cell? ⟨w.heap.size + 1, 1, none⟩ = some (.int .i64 g) := (hb3.cell (p := ⟨w.heap.size + 1, 1, none⟩) (by simp)).trans (by ((try simp (disch := first | omega | (simp only [World.size_alloc] <;> omega) | fail) only [World.cell?_alloc_past, World.cell?_alloc_at, World.frozen?_alloc_past, World.frozen?_alloc_at]) <;> rfl))
  have HB3 := Lib.hid (HB.out.trans (hb3.mono (by simp; omega)))
  clear hb3
  go_wp2_with fail
  refine (HT.out _ HB3.out).mono ?_
  rintro e w4 ⟨v, u, rfl, hov, hou, hne, hb4⟩
  have hz4 := hb4.size
  have i2 : w4.cell? ⟨w.heap.size + 1, 0, none⟩ = some (.int .i64 n) := (hb4.cell (p := ⟨w.heap.size + 1, 0, none⟩) (by show w.heap.size + 1 < w3.heap.size; omega)).trans e2
  have i3 : w4.cell? ⟨w.heap.size + 1, 1, none⟩ = some (.int .i64 g) := (hb4.cell (p := ⟨w.heap.size + 1, 1, none⟩) (by show w.heap.size + 1 < w3.heap.size; omega)).trans e3
  have il : w.heap.size + 1 < w4.heap.size := by omega
  have HB4 := Lib.hid (HB3.out.trans (hb4.mono (by omega)))
  obtain ⟨va, vc, rfl, hiv, _⟩ := ints_of_owns hov
  obtain ⟨ua, uc, rfl, hiu, _⟩ := ints_of_owns hou
  rw [H1.out] at hou
  rw [H1.out]
  clear hov hou hne hiv hiu hb4
  go_wp2
  go_ret2
  exact ⟨rfl, HB4.out.alloc (by omega) _⟩

end Go.Proofs.Ytonmgmhkejbikaa
