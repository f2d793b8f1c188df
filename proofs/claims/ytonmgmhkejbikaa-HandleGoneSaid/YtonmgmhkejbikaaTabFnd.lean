/- Walks of Find: the program's and the reference's. -/
import Derived.Test.YtonmgmhkejbikaaTabAsk
namespace Go.Proofs.Ytonmgmhkejbikaa
open Go.RowKit Go.Shelf
set_option linter.unusedVariables false
set_option linter.unusedSimpArgs false

/-- what Find answers -/
def findV (gs ps : List Int) (n g : Int) : Int := if may gs ps = true ∧ isH gs ps n g = true then ps.getD n.toNat 0 else 0
def findE (gs ps : List Int) (n g : Int) : Int := if may gs ps = true then (if isH gs ps n g = true then 0 else 140) else 8
def FindR (w : World) (gs ps : List Int) (n g : Int) (e : Ending) (w' : World) : Prop := e = .returned (.tuple #[.int .i64 (findV gs ps n g), .int .i64 (findE gs ps n g)]) ∧ Below w.heap.size w w'

theorem Find_ok (ga aa : Option Addr) (gc ac : Nat) (gs ps : List Int) (n g : Int) (w : World) (hg : IsInts w ga gs) (hp : IsInts w aa ps) (hlg : gs.length ≤ 1000000000) (hla : ps.length ≤ 1000000000) :
    Calls Try.prog 13 #[tabV ga gs.length gc aa ps.length ac, .agg #[.int .i64 n, .int .i64 g]] w (FindR w gs ps n g) := by
  have HB := Lib.hid ((((Below.refl _ w).alloc (Nat.le_refl _) (.cells #[.slice ga gs.length gc, .slice aa ps.length ac] 24)).alloc (by simp) (.cells #[.int .i64 n, .int .i64 g] 26)))
  by_cases hm : may gs ps = true
  · by_cases hi : isH gs ps n g = true
    · have hA := asked_ok ga aa gc ac gs ps n g 0 _ (hg.below HB.out) (hp.below HB.out) hm (Int.le_refl _) hi
      obtain ⟨f1, f2, f3, f4⟩ := isH_facts hi
      have h1 := (may_len hm).1
      have HA := Lib.hid hA
      have hv : findV gs ps n g = ps.getD n.toNat 0 := by simp [findV, hm, hi]
      have he : findE gs ps n g = 0 := by simp [findE, hm, hi]
      have HV := Lib.hid hv
      have HE := Lib.hid he
      have H1 := Lib.hid h1
      clear hA hm hi hv he hg hp f3 f4 h1
      go_enter Try.func13, Try.ntmps13
      go_wp2_with fail
      refine HA.out.mono ?_
      rintro e w3 ⟨B, v, u, rfl, hBz, hcells, hov, hou, hne, hb3⟩
      have hz3 := hb3.size
      rw [World.size_alloc, World.size_alloc] at hz3
      have e2 : w3.cell? ⟨w.heap.size + 1, 0, none⟩ = some (.int .i64 n) := (hb3.cell (p := ⟨w.heap.size + 1, 0, none⟩) (by simp)).trans (by ((try simp (disch := first | omega | (simp only [World.size_alloc] <;> omega) | fail) only [World.cell?_alloc_past, World.cell?_alloc_at, World.frozen?_alloc_past, World.frozen?_alloc_at]) <;> rfl))
      have c1 : w3.cell? ⟨B, 1, none⟩ = some u := by simp [World.cell?, hcells]
      obtain ⟨ua, uc, rfl, hiu, _⟩ := ints_of_owns hou
      obtain ⟨b1, o1, y, rfl, hy, hcy, _⟩ := hiu.get (k := n.toNat) (by have := H1.out; omega)
      have hlen : n < (ps.length : Int) := by have := H1.out; omega
      have HB3 := Lib.hid (HB.out.trans (hb3.mono (by simp; omega)))
      clear hcells hov hou hne hb3 hiu
      go_wp2
      go_quiet (fail)
      go_wp2
      go_ret2
      exact ⟨by rw [HV.out, HE.out, hy.out]; rfl, below_drewN HB3.out _⟩
    · have hi' : isH gs ps n g = false := by simpa using hi
      have hA := asked_not ga aa gc ac gs ps n g 0 _ (hg.below HB.out) (hp.below HB.out) hm (Int.le_refl _) hi'
      have HA := Lib.hid hA
      have HV := Lib.hid (show findV gs ps n g = 0 by simp [findV, hi])
      have HE := Lib.hid (show findE gs ps n g = 140 by simp [findE, hm, hi])
      clear hA hm hi hi' hg hp
      go_enter Try.func13, Try.ntmps13
      go_wp2_with fail
      refine HA.out.mono ?_
      rintro e w3 ⟨rfl, hb3⟩
      go_wp2
      go_ret2
      exact ⟨by rw [HV.out, HE.out]; rfl, HB.out.trans (hb3.mono (by simp; omega))⟩
  · have hm' : may gs ps = false := by simpa using hm
    have hA := asked_bad ga aa gc ac gs ps n g 0 _ (hg.below HB.out) (hp.below HB.out) hm' hlg hla
    have HA := Lib.hid hA
    have HV := Lib.hid (show findV gs ps n g = 0 by simp [findV, hm])
    have HE := Lib.hid (show findE gs ps n g = 8 by simp [findE, hm])
    clear hA hm hm' hg hp
    go_enter Try.func13, Try.ntmps13
    go_wp2_with fail
    refine HA.out.mono ?_
    rintro e w3 ⟨rfl, hb3⟩
    go_wp2
    go_ret2
    exact ⟨by rw [HV.out, HE.out]; rfl, HB.out.trans (hb3.mono (by simp; omega))⟩

theorem Find14_ok (ga aa : Option Addr) (gc ac : Nat) (gs ps : List Int) (n g : Int) (w : World) (hg : IsInts w ga gs) (hp : IsInts w aa ps) (hlg : gs.length ≤ 1000000000) (hla : ps.length ≤ 1000000000) :
    Calls Try.prog 14 #[tabV ga gs.length gc aa ps.length ac, .agg #[.int .i64 n, .int .i64 g]] w (FindR w gs ps n g) := by
  have HB := Lib.hid ((((Below.refl _ w).alloc (Nat.le_refl _) (.cells #[.slice ga gs.length gc, .slice aa ps.length ac] 24)).alloc (by simp) (.cells #[.int .i64 n, .int .i64 g] 26)))
  have hM := May_ok ga aa gc ac gs ps _ (hg.below HB.out) (hp.below HB.out) hlg hla
  by_cases hm : may gs ps = true
  · rw [hm] at hM
    have HM := Lib.hid hM
    have h1 := (may_len hm).1
    have HG := Lib.hid hg
    have HP := Lib.hid hp
    have H1 := Lib.hid h1
    have HI := Lib.hid (fun w' (hb : Below w.heap.size w w') => Is14_ok ga aa gc ac gs ps n g w' (HG.out.below hb) (HP.out.below hb) h1 hlg)
    by_cases hi : isH gs ps n g = true
    · obtain ⟨f1, f2, f3, f4⟩ := isH_facts hi
      have HV := Lib.hid (show findV gs ps n g = ps.getD n.toNat 0 by simp [findV, hm, hi])
      have HE := Lib.hid (show findE gs ps n g = 0 by simp [findE, hm, hi])
      rw [hi] at HI
      clear hM hm hi hg hp f3 f4 h1
      go_enter Try.func14, Try.ntmps14
      go_wp2_with fail
      refine HM.out.mono ?_
      rintro e w3 ⟨rfl, hb3⟩
      have hz3 := hb3.size
      rw [World.size_alloc, World.size_alloc] at hz3
      have e0 : w3.cell? ⟨w.heap.size, 0, none⟩ = some (.slice ga gs.length gc) := (hb3.cell (p := ⟨w.heap.size, 0, none⟩) (by simp; omega)).trans (by ((try simp (disch := first | omega | (simp only [World.size_alloc] <;> omega) | fail) only [World.cell?_alloc_past, World.cell?_alloc_at, World.frozen?_alloc_past, World.frozen?_alloc_at]) <;> rfl))
      have e1 : w3.cell? ⟨w.heap.size, 1, none⟩ = some (.slice aa ps.length ac) := (hb3.cell (p := ⟨w.heap.size, 1, none⟩) (by simp; omega)).trans (by ((try simp (disch := first | omega | (simp only [World.size_alloc] <;> omega) | fail) only [World.cell?_alloc_past, World.cell?_alloc_at, World.frozen?_alloc_past, World.frozen?_alloc_at]) <;> rfl))
      have e2 : w3.cell? ⟨w.heap.size + 1, 0, none⟩ = some (.int .i64 n) := (hb3.cell (p := ⟨w.heap.size + 1, 0, none⟩) (by simp)).trans (by ((try simp (disch := first | omega | (simp only [World.size_alloc] <;> omega) | fail) only [World.cell?_alloc_past, World.cell?_alloc_at, World.frozen?_alloc_past, World.frozen?_alloc_at]) <;> rfl))
      have e3 : w3.cell? ⟨w.heap.size + 1, 1, none⟩ = some (.int .i64 g) := (hb3.cell (p := ⟨w.heap.size + 1, 1, none⟩) (by simp)).trans (by ((try simp (disch := first | omega | (simp only [World.size_alloc] <;> omega) | fail) only [World.cell?_alloc_past, World.cell?_alloc_at, World.frozen?_alloc_past, World.frozen?_alloc_at]) <;> rfl))
      have HB3 := Lib.hid (HB.out.trans (hb3.mono (by simp; omega)))
      clear hb3
      go_wp2_with fail
      refine (HI.out _ HB3.out).mono ?_
      rintro e w4 ⟨rfl, hb4⟩
      have i1 : w4.cell? ⟨w.heap.size, 1, none⟩ = some (.slice aa ps.length ac) := (hb4.cell (p := ⟨w.heap.size, 1, none⟩) (by show w.heap.size < w3.heap.size; omega)).trans e1
      have i2 : w4.cell? ⟨w.heap.size + 1, 0, none⟩ = some (.int .i64 n) := (hb4.cell (p := ⟨w.heap.size + 1, 0, none⟩) (by show w.heap.size + 1 < w3.heap.size; omega)).trans e2
      have HB4 := Lib.hid (HB3.out.trans (hb4.mono (by omega)))
      obtain ⟨b1, o1, y, rfl, hy, hcy, _⟩ := (HP.out.below HB4.out).get (k := n.toNat) (by have := H1.out; omega)
      have hlen : n < (ps.length : Int) := by have := H1.out; omega
      clear hb4
      go_wp2
      go_ret2
      exact ⟨by rw [HV.out, HE.out, hy.out]; rfl, HB4.out⟩
    · have HV := Lib.hid (show findV gs ps n g = 0 by simp [findV, hi])
      have HE := Lib.hid (show findE gs ps n g = 140 by simp [findE, hm, hi])
      rw [show isH gs ps n g = false by simpa using hi] at HI
      clear hM hm hi hg hp h1
      go_enter Try.func14, Try.ntmps14
      go_wp2_with fail
      refine HM.out.mono ?_
      rintro e w3 ⟨rfl, hb3⟩
      have hz3 := hb3.size
      rw [World.size_alloc, World.size_alloc] at hz3
      have e0 : w3.cell? ⟨w.heap.size, 0, none⟩ = some (.slice ga gs.length gc) := (hb3.cell (p := ⟨w.heap.size, 0, none⟩) (by simp; omega)).trans (by ((try simp (disch := first | omega | (simp only [World.size_alloc] <;> omega) | fail) only [World.cell?_alloc_past, World.cell?_alloc_at, World.frozen?_alloc_past, World.frozen?_alloc_at]) <;> rfl))
      have e1 : w3.cell? ⟨w.heap.size, 1, none⟩ = some (.slice aa ps.length ac) := (hb3.cell (p := ⟨w.heap.size, 1, none⟩) (by simp; omega)).trans (by ((try simp (disch := first | omega | (simp only [World.size_alloc] <;> omega) | fail) only [World.cell?_alloc_past, World.cell?_alloc_at, World.frozen?_alloc_past, World.frozen?_alloc_at]) <;> rfl))
      have e2 : w3.cell? ⟨w.heap.size + 1, 0, none⟩ = some (.int .i64 n) := (hb3.cell (p := ⟨w.heap.size + 1, 0, none⟩) (by simp)).trans (by ((try simp (disch := first | omega | (simp only [World.size_alloc] <;> omega) | fail) only [World.cell?_alloc_past, World.cell?_alloc_at, World.frozen?_alloc_past, World.frozen?_alloc_at]) <;> rfl))
      have e3 : w3.cell? ⟨w.heap.size + 1, 1, none⟩ = some (.int .i64 g) := (hb3.cell (p := ⟨w.heap.size + 1, 1, none⟩) (by simp)).trans (by ((try simp (disch := first | omega | (simp only [World.size_alloc] <;> omega) | fail) only [World.cell?_alloc_past, World.cell?_alloc_at, World.frozen?_alloc_past, World.frozen?_alloc_at]) <;> rfl))
      have HB3 := Lib.hid (HB.out.trans (hb3.mono (by simp; omega)))
      clear hb3
      go_wp2_with fail
      refine (HI.out _ HB3.out).mono ?_
      rintro e w4 ⟨rfl, hb4⟩
      have HB4 := Lib.hid (HB3.out.trans (hb4.mono (by omega)))
      clear hb4
      go_wp2
      go_ret2
      exact ⟨by rw [HV.out, HE.out]; rfl, HB4.out⟩
  · have hm' : may gs ps = false := by simpa using hm
    rw [hm'] at hM
    have HM := Lib.hid hM
    have HV := Lib.hid (show findV gs ps n g = 0 by simp [findV, hm])
    have HE := Lib.hid (show findE gs ps n g = 8 by simp [findE, hm])
    clear hM hm hm' hg hp
    go_enter Try.func14, Try.ntmps14
    go_wp2_with fail
    refine HM.out.mono ?_
    rintro e w3 ⟨rfl, hb3⟩
    go_wp2
    go_ret2
    exact ⟨by rw [HV.out, HE.out]; rfl, HB.out.trans (hb3.mono (by simp; omega))⟩
end Go.Proofs.Ytonmgmhkejbikaa
