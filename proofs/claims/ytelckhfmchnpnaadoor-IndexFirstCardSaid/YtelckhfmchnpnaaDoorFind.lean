/- seek.from, Next and Find. -/
import Derived.Test.YtelckhfmchnpnaaDoorSplit
namespace Go.Proofs.YtelckhfmchnpnaaDoor
open Go.RowKit Go.Shelf
set_option linter.unusedVariables false
set_option linter.unusedSimpArgs false

theorem seek_n {c : SlC} (h : seekE c = 0) : c.ks.length ≤ 65536 ∧ c.ws.length ≤ 65536 ∧ wMayB c.ws c.ks.length = true := by
  have hm := seekE_may h
  have hh := slMay_head hm
  obtain ⟨S, M, -, -, -, hnk, -, hw, -, hSM, -⟩ := slHead_facts hh
  have hwm : wMayB c.ws c.ks.length = true := by
    unfold slHead at hh
    simp only [Bool.and_eq_true] at hh
    exact hh.1.2
  refine ⟨by omega, ?_, hwm⟩
  simp only [wMayB, Bool.and_eq_true, decide_eq_true_eq] at hwm
  omega
set_option maxRecDepth 100000 in
set_option maxHeartbeats 1000000 in
theorem from_ok (c : SlC) (a : SlA) (key : Int) (hs : seekE c = 0) (w : World) (hin : SlIn w c a) (hT : TabAt w) :
    Calls Tryd.prog 26 #[slV c a, .int .i64 key] w (AnsB w (.int .i64 (frS c.ws c.ks c.ks.length key))) := by
  obtain ⟨h1, h2, h3⟩ := seek_n hs
  have hmo := seek_mono hs
  have SP := Lib.hid (fun W (hW : Below w.heap.size w W) (b : Nat) (hb : W.cell? ⟨b, 0, none⟩ = some (.int .i64 key)) => split_ok c.seg c.laid key a.wa a.ka a.va a.ca a.wc a.kc a.vc a.cc c.ws.length c.vs.length c.cs.length c.ks.length c.ws c.ks h1 rfl b W (hin.below hW).k hb hmo
    (Lib.hid fun m W' hm hW' => Next_ok a.wa a.wc c.ws hin.u c.ks.length m h1 (by omega) h3 hm W' ((hin.below hW).below hW').w ((hT.below hW).below hW')))
  obtain ⟨seg, ws, ks, vs, cs, laid⟩ := c
  obtain ⟨wa, ka, va, ca, wc, kc, vc, cc⟩ := a
  dsimp only [slV] at *
  generalize frS ws ks ks.length key = R at *
  clear hin hs h1 h2 h3 hmo hT
  go_enter Tryd.func26, Tryd.ntmps26
  go_wp2_with fail
  refine (SP.out _ (((Below.refl _ _).alloc (Nat.le_refl _) _).alloc (by simp) _) (w.heap.size + 1) (by ((try simp (disch := first | omega | (simp only [World.size_alloc] <;> omega) | fail) only [World.cell?_alloc_past, World.cell?_alloc_at, World.frozen?_alloc_past, World.frozen?_alloc_at]) <;> rfl))).mono ?_
  rintro e w2 ⟨rfl, hb2⟩
  have hB2 : Below w.heap.size w w2 := below_via hb2 (((Below.refl _ _).alloc (Nat.le_refl _) _).alloc (by simp) _) (by simp; omega)
  go_wp2
  go_ret
  exact ⟨rfl, hB2⟩
/-- what Next answers -/
def nextV (c : SlC) (key : Int) : Int × Int := if seekE c = 0 then (if frS c.ws c.ks c.ks.length key = c.ks.length then (0, 6) else (frS c.ws c.ks c.ks.length key, 0)) else (0, seekE c)
set_option maxRecDepth 100000 in
set_option maxHeartbeats 1000000 in
theorem seekNext_ok (c : SlC) (a : SlA) (key : Int) (hl : c.ws.length ≤ 1000000000000) (hl2 : c.ks.length ≤ 1000000000000) (w : World) (hin : SlIn w c a) (hT : TabAt w) :
    Calls Tryd.prog 17 #[slV c a, .int .i64 key] w (AnsB w (.tuple #[.int .i64 (nextV c key).1, .int .i64 (nextV c key).2])) := by
  have CK := Lib.hid (fun W (hW : Below w.heap.size w W) => seekCheck_ok c a hl hl2 W (hin.below hW))
  by_cases hs : seekE c = 0
  · have FR := Lib.hid (fun W (hW : Below w.heap.size w W) => from_ok c a key hs W (hin.below hW) (hT.below hW))
    have hle := (frS_is c.ws c.ks c.ks.length key).le
    rw [hs] at CK
    by_cases hr : frS c.ws c.ks c.ks.length key = c.ks.length
    · have e : nextV c key = (0, 6) := by rw [nextV, if_pos hs, if_pos hr]
      rw [hr] at FR
      rw [e]
      clear e hr hle
      obtain ⟨seg, ws, ks, vs, cs, laid⟩ := c
      obtain ⟨wa, ka, va, ca, wc, kc, vc, cc⟩ := a
      dsimp only [slV] at *
      have g1 : ((ks.length : Int) == ks.length) = true := by simp
      clear hin hs hT hl hl2
      go_enter Tryd.func17, Tryd.ntmps17
      go_wp2_with fail
      refine (CK.out _ (by (repeat (first | (with_reducible exact Below.refl _ _) | (with_reducible assumption) | (with_reducible exact Hid.out (by with_reducible assumption)) | (with_reducible refine Below.alloc ?_ ?_ _) | (with_reducible refine Below.setCell ?_ ?_ _) | (with_reducible refine below_drewN ?_ _) | (with_reducible refine Below.drew ?_) | (with_reducible refine below_via (by with_reducible assumption) ?_ ?_) | (first | (with_reducible assumption) | omega | (simp only [World.size_alloc, World.size_setCell, World.size_drew, World.heap_drewN] <;> omega) | (simp <;> omega)))))).mono ?_
      rintro e w1 ⟨rfl, hb1⟩
      have hz_w1 := hb1.size
      try simp only [World.size_alloc, World.size_setCell] at hz_w1
      have all_c : w1.cell? ⟨w.heap.size, 0, none⟩ = some (.int .i64 seg) ∧ w1.cell? ⟨w.heap.size, 1, none⟩ = some (.slice wa ws.length wc) ∧ w1.cell? ⟨w.heap.size, 2, none⟩ = some (.slice ka ks.length kc) ∧ w1.cell? ⟨w.heap.size, 3, none⟩ = some (.slice va vs.length vc) ∧ w1.cell? ⟨w.heap.size, 4, none⟩ = some (.slice ca cs.length cc) ∧ w1.cell? ⟨w.heap.size, 5, none⟩ = some (.int .u64 laid) := by refine ⟨?_, ?_, ?_, ?_, ?_, ?_⟩ <;> (refine (hb1.cell ?_).trans ?_ <;> first | (first | (with_reducible assumption) | omega | (simp only [World.size_alloc, World.size_setCell, World.size_drew, World.heap_drewN] <;> omega) | (simp <;> omega)) | (first | (with_reducible assumption) | ((try simp (disch := first | omega | (simp only [World.size_alloc, World.size_setCell, World.size_drew, World.heap_drewN] <;> omega) | fail) only [World.cell?_alloc_past, World.cell?_alloc_at, World.frozen?_alloc_past, World.frozen?_alloc_at, World.frozen?_setCell, World.cell?_drew, World.frozen?_drew]) <;> first | (with_reducible assumption) | rfl)))
      have all_z : w.heap.size < w1.heap.size := by omega
      obtain ⟨c_t0, c_t1, c_t2, c_t3, c_t4, c_t5⟩ := all_c
      try clear all_c
      have z_t := all_z
      try clear all_z
      have hB1 : Below w.heap.size w w1 := by (repeat (first | (with_reducible exact Below.refl _ _) | (with_reducible assumption) | (with_reducible exact Hid.out (by with_reducible assumption)) | (with_reducible refine Below.alloc ?_ ?_ _) | (with_reducible refine Below.setCell ?_ ?_ _) | (with_reducible refine below_drewN ?_ _) | (with_reducible refine Below.drew ?_) | (with_reducible refine below_via (by with_reducible assumption) ?_ ?_) | (first | (with_reducible assumption) | omega | (simp only [World.size_alloc, World.size_setCell, World.size_drew, World.heap_drewN] <;> omega) | (simp <;> omega))))
      go_wp2_with fail
      refine (FR.out _ hB1).mono ?_
      rintro e w2 ⟨rfl, hb2⟩
      have hz_w2 := hb2.size
      try simp only [World.size_alloc, World.size_setCell] at hz_w2
      have all_c : w2.cell? ⟨w.heap.size, 0, none⟩ = some (.int .i64 seg) ∧ w2.cell? ⟨w.heap.size, 1, none⟩ = some (.slice wa ws.length wc) ∧ w2.cell? ⟨w.heap.size, 2, none⟩ = some (.slice ka ks.length kc) ∧ w2.cell? ⟨w.heap.size, 3, none⟩ = some (.slice va vs.length vc) ∧ w2.cell? ⟨w.heap.size, 4, none⟩ = some (.slice ca cs.length cc) ∧ w2.cell? ⟨w.heap.size, 5, none⟩ = some (.int .u64 laid) := by refine ⟨?_, ?_, ?_, ?_, ?_, ?_⟩ <;> (refine (hb2.cell ?_).trans ?_ <;> first | (first | (with_reducible assumption) | omega | (simp only [World.size_alloc, World.size_setCell, World.size_drew, World.heap_drewN] <;> omega) | (simp <;> omega)) | (first | (with_reducible assumption) | ((try simp (disch := first | omega | (simp only [World.size_alloc, World.size_setCell, World.size_drew, World.heap_drewN] <;> omega) | fail) only [World.cell?_alloc_past, World.cell?_alloc_at, World.frozen?_alloc_past, World.frozen?_alloc_at, World.frozen?_setCell, World.cell?_drew, World.frozen?_drew]) <;> first | (with_reducible assumption) | rfl)))
      have all_z : w.heap.size < w2.heap.size := by omega
      clear c_t0 c_t1 c_t2 c_t3 c_t4 c_t5 z_t
      obtain ⟨c_t0, c_t1, c_t2, c_t3, c_t4, c_t5⟩ := all_c
      try clear all_c
      have z_t := all_z
      try clear all_z
      have hB2 : Below w.heap.size w w2 := by (repeat (first | (with_reducible exact Below.refl _ _) | (with_reducible assumption) | (with_reducible exact Hid.out (by with_reducible assumption)) | (with_reducible refine Below.alloc ?_ ?_ _) | (with_reducible refine Below.setCell ?_ ?_ _) | (with_reducible refine below_drewN ?_ _) | (with_reducible refine Below.drew ?_) | (with_reducible refine below_via (by with_reducible assumption) ?_ ?_) | (first | (with_reducible assumption) | omega | (simp only [World.size_alloc, World.size_setCell, World.size_drew, World.heap_drewN] <;> omega) | (simp <;> omega))))
      go_wp2
      go_ret2
      exact ⟨rfl, hB2⟩
    · have e : nextV c key = (((frS c.ws c.ks c.ks.length key : Nat) : Int), 0) := by rw [nextV, if_pos hs, if_neg hr]
      rw [e]
      clear e
      generalize frS c.ws c.ks c.ks.length key = R at *
      obtain ⟨seg, ws, ks, vs, cs, laid⟩ := c
      obtain ⟨wa, ka, va, ca, wc, kc, vc, cc⟩ := a
      dsimp only [slV] at *
      have g1 : ((R : Int) == ks.length) = false := by simp; omega
      clear hin hs hT hl hl2 hr hle
      go_enter Tryd.func17, Tryd.ntmps17
      go_wp2_with fail
      refine (CK.out _ (by (repeat (first | (with_reducible exact Below.refl _ _) | (with_reducible assumption) | (with_reducible exact Hid.out (by with_reducible assumption)) | (with_reducible refine Below.alloc ?_ ?_ _) | (with_reducible refine Below.setCell ?_ ?_ _) | (with_reducible refine below_drewN ?_ _) | (with_reducible refine Below.drew ?_) | (with_reducible refine below_via (by with_reducible assumption) ?_ ?_) | (first | (with_reducible assumption) | omega | (simp only [World.size_alloc, World.size_setCell, World.size_drew, World.heap_drewN] <;> omega) | (simp <;> omega)))))).mono ?_
      rintro e w1 ⟨rfl, hb1⟩
      have hz_w1 := hb1.size
      try simp only [World.size_alloc, World.size_setCell] at hz_w1
      have all_c : w1.cell? ⟨w.heap.size, 0, none⟩ = some (.int .i64 seg) ∧ w1.cell? ⟨w.heap.size, 1, none⟩ = some (.slice wa ws.length wc) ∧ w1.cell? ⟨w.heap.size, 2, none⟩ = some (.slice ka ks.length kc) ∧ w1.cell? ⟨w.heap.size, 3, none⟩ = some (.slice va vs.length vc) ∧ w1.cell? ⟨w.heap.size, 4, none⟩ = some (.slice ca cs.length cc) ∧ w1.cell? ⟨w.heap.size, 5, none⟩ = some (.int .u64 laid) := by refine ⟨?_, ?_, ?_, ?_, ?_, ?_⟩ <;> (refine (hb1.cell ?_).trans ?_ <;> first | (first | (with_reducible assumption) | omega | (simp only [World.size_alloc, World.size_setCell, World.size_drew, World.heap_drewN] <;> omega) | (simp <;> omega)) | (first | (with_reducible assumption) | ((try simp (disch := first | omega | (simp only [World.size_alloc, World.size_setCell, World.size_drew, World.heap_drewN] <;> omega) | fail) only [World.cell?_alloc_past, World.cell?_alloc_at, World.frozen?_alloc_past, World.frozen?_alloc_at, World.frozen?_setCell, World.cell?_drew, World.frozen?_drew]) <;> first | (with_reducible assumption) | rfl)))
      have all_z : w.heap.size < w1.heap.size := by omega
      obtain ⟨c_t0, c_t1, c_t2, c_t3, c_t4, c_t5⟩ := all_c
      try clear all_c
      have z_t := all_z
      try clear all_z
      have hB1 : Below w.heap.size w w1 := by (repeat (first | (with_reducible exact Below.refl _ _) | (with_reducible assumption) | (with_reducible exact Hid.out (by with_reducible assumption)) | (with_reducible refine Below.alloc ?_ ?_ _) | (with_reducible refine Below.setCell ?_ ?_ _) | (with_reducible refine below_drewN ?_ _) | (with_reducible refine Below.drew ?_) | (with_reducible refine below_via (by with_reducible assumption) ?_ ?_) | (first | (with_reducible assumption) | omega | (simp only [World.size_alloc, World.size_setCell, World.size_drew, World.heap_drewN] <;> omega) | (simp <;> omega))))
      go_wp2_with fail
      refine (FR.out _ hB1).mono ?_
      rintro e w2 ⟨rfl, hb2⟩
      have hz_w2 := hb2.size
      try simp only [World.size_alloc, World.size_setCell] at hz_w2
      have all_c : w2.cell? ⟨w.heap.size, 0, none⟩ = some (.int .i64 seg) ∧ w2.cell? ⟨w.heap.size, 1, none⟩ = some (.slice wa ws.length wc) ∧ w2.cell? ⟨w.heap.size, 2, none⟩ = some (.slice ka ks.length kc) ∧ w2.cell? ⟨w.heap.size, 3, none⟩ = some (.slice va vs.length vc) ∧ w2.cell? ⟨w.heap.size, 4, none⟩ = some (.slice ca cs.length cc) ∧ w2.cell? ⟨w.heap.size, 5, none⟩ = some (.int .u64 laid) := by refine ⟨?_, ?_, ?_, ?_, ?_, ?_⟩ <;> (refine (hb2.cell ?_).trans ?_ <;> first | (first | (with_reducible assumption) | omega | (simp only [World.size_alloc, World.size_setCell, World.size_drew, World.heap_drewN] <;> omega) | (simp <;> omega)) | (first | (with_reducible assumption) | ((try simp (disch := first | omega | (simp only [World.size_alloc, World.size_setCell, World.size_drew, World.heap_drewN] <;> omega) | fail) only [World.cell?_alloc_past, World.cell?_alloc_at, World.frozen?_alloc_past, World.frozen?_alloc_at, World.frozen?_setCell, World.cell?_drew, World.frozen?_drew]) <;> first | (with_reducible assumption) | rfl)))
      have all_z : w.heap.size < w2.heap.size := by omega
      clear c_t0 c_t1 c_t2 c_t3 c_t4 c_t5 z_t
      obtain ⟨c_t0, c_t1, c_t2, c_t3, c_t4, c_t5⟩ := all_c
      try clear all_c
      have z_t := all_z
      try clear all_z
      have hB2 : Below w.heap.size w w2 := by (repeat (first | (with_reducible exact Below.refl _ _) | (with_reducible assumption) | (with_reducible exact Hid.out (by with_reducible assumption)) | (with_reducible refine Below.alloc ?_ ?_ _) | (with_reducible refine Below.setCell ?_ ?_ _) | (with_reducible refine below_drewN ?_ _) | (with_reducible refine Below.drew ?_) | (with_reducible refine below_via (by with_reducible assumption) ?_ ?_) | (first | (with_reducible assumption) | omega | (simp only [World.size_alloc, World.size_setCell, World.size_drew, World.heap_drewN] <;> omega) | (simp <;> omega))))
      go_wp2
      go_ret2
      exact ⟨rfl, hB2⟩
  · have e : nextV c key = (0, seekE c) := by rw [nextV, if_neg hs]
    rw [e]
    have g1 : (seekE c != 0) = true := by simpa using hs
    generalize seekE c = E at *
    obtain ⟨seg, ws, ks, vs, cs, laid⟩ := c
    obtain ⟨wa, ka, va, ca, wc, kc, vc, cc⟩ := a
    dsimp only [slV] at *
    clear hin hs hT hl hl2 e
    go_enter Tryd.func17, Tryd.ntmps17
    go_wp2_with fail
    refine (CK.out _ (by (repeat (first | (with_reducible exact Below.refl _ _) | (with_reducible assumption) | (with_reducible exact Hid.out (by with_reducible assumption)) | (with_reducible refine Below.alloc ?_ ?_ _) | (with_reducible refine Below.setCell ?_ ?_ _) | (with_reducible refine below_drewN ?_ _) | (with_reducible refine Below.drew ?_) | (with_reducible refine below_via (by with_reducible assumption) ?_ ?_) | (first | (with_reducible assumption) | omega | (simp only [World.size_alloc, World.size_setCell, World.size_drew, World.heap_drewN] <;> omega) | (simp <;> omega)))))).mono ?_
    rintro e w1 ⟨rfl, hb1⟩
    have hz_w1 := hb1.size
    try simp only [World.size_alloc, World.size_setCell] at hz_w1
    have all_c : w1.cell? ⟨w.heap.size, 0, none⟩ = some (.int .i64 seg) ∧ w1.cell? ⟨w.heap.size, 1, none⟩ = some (.slice wa ws.length wc) ∧ w1.cell? ⟨w.heap.size, 2, none⟩ = some (.slice ka ks.length kc) ∧ w1.cell? ⟨w.heap.size, 3, none⟩ = some (.slice va vs.length vc) ∧ w1.cell? ⟨w.heap.size, 4, none⟩ = some (.slice ca cs.length cc) ∧ w1.cell? ⟨w.heap.size, 5, none⟩ = some (.int .u64 laid) := by refine ⟨?_, ?_, ?_, ?_, ?_, ?_⟩ <;> (refine (hb1.cell ?_).trans ?_ <;> first | (first | (with_reducible assumption) | omega | (simp only [World.size_alloc, World.size_setCell, World.size_drew, World.heap_drewN] <;> omega) | (simp <;> omega)) | (first | (with_reducible assumption) | ((try simp (disch := first | omega | (simp only [World.size_alloc, World.size_setCell, World.size_drew, World.heap_drewN] <;> omega) | fail) only [World.cell?_alloc_past, World.cell?_alloc_at, World.frozen?_alloc_past, World.frozen?_alloc_at, World.frozen?_setCell, World.cell?_drew, World.frozen?_drew]) <;> first | (with_reducible assumption) | rfl)))
    have all_z : w.heap.size < w1.heap.size := by omega
    obtain ⟨c_t0, c_t1, c_t2, c_t3, c_t4, c_t5⟩ := all_c
    try clear all_c
    have z_t := all_z
    try clear all_z
    have hB1 : Below w.heap.size w w1 := by (repeat (first | (with_reducible exact Below.refl _ _) | (with_reducible assumption) | (with_reducible exact Hid.out (by with_reducible assumption)) | (with_reducible refine Below.alloc ?_ ?_ _) | (with_reducible refine Below.setCell ?_ ?_ _) | (with_reducible refine below_drewN ?_ _) | (with_reducible refine Below.drew ?_) | (with_reducible refine below_via (by with_reducible assumption) ?_ ?_) | (first | (with_reducible assumption) | omega | (simp only [World.size_alloc, World.size_setCell, World.size_drew, World.heap_drewN] <;> omega) | (simp <;> omega))))
    go_wp2
    go_ret2
    exact ⟨rfl, hB1⟩
/-- what Find answers -/
def findV (c : SlC) (key : Int) : Int × Int := if (nextV c key).2 = 0 then (if c.ks.getD (nextV c key).1.toNat 0 = key then ((nextV c key).1, 0) else (0, 6)) else (0, (nextV c key).2)
theorem nextV_in {c : SlC} {key : Int} (h : (nextV c key).2 = 0) : ∃ r : Nat, (nextV c key).1 = r ∧ r < c.ks.length ∧ r = frS c.ws c.ks c.ks.length key ∧ seekE c = 0 := by
  unfold nextV at h ⊢
  by_cases hs : seekE c = 0
  · rw [if_pos hs] at h ⊢
    split at h
    · cases h
    · rename_i hr
      rw [if_neg hr]
      have := (frS_is c.ws c.ks c.ks.length key).le
      exact ⟨_, rfl, by omega, rfl, hs⟩
  · rw [if_neg hs] at h
    exact absurd h hs
set_option maxRecDepth 100000 in
set_option maxHeartbeats 1000000 in
theorem seekFind_ok (c : SlC) (a : SlA) (key : Int) (hl : c.ws.length ≤ 1000000000000) (hl2 : c.ks.length ≤ 1000000000000) (w : World) (hin : SlIn w c a) (hT : TabAt w) :
    Calls Tryd.prog 7 #[slV c a, .int .i64 key] w (AnsB w (.tuple #[.int .i64 (findV c key).1, .int .i64 (findV c key).2])) := by
  have NX := Lib.hid (fun W (hW : Below w.heap.size w W) => seekNext_ok c a key hl hl2 W (hin.below hW) (hT.below hW))
  by_cases h0 : (nextV c key).2 = 0
  · obtain ⟨r, e1, hr, -, -⟩ := nextV_in h0
    rw [e1, h0] at NX
    obtain ⟨b, off, x, hka, hx, hc, hlt⟩ := hin.k.get (i := r) hr
    by_cases hk : x = key
    · have e : findV c key = ((r : Int), 0) := by rw [findV, if_pos h0, e1, Int.toNat_natCast, if_pos (hx.out.trans hk)]
      rw [e]
      obtain ⟨seg, ws, ks, vs, cs, laid⟩ := c
      obtain ⟨wa, ka, va, ca, wc, kc, vc, cc⟩ := a
      dsimp only [slV] at *
      subst hka
      have g1 : (x != key) = false := by simpa using hk
      clear hin hT hl hl2 e e1 h0 hx hk
      go_enter Tryd.func7, Tryd.ntmps7
      go_wp2_with fail
      refine (NX.out _ (by (repeat (first | (with_reducible exact Below.refl _ _) | (with_reducible assumption) | (with_reducible exact Hid.out (by with_reducible assumption)) | (with_reducible refine Below.alloc ?_ ?_ _) | (with_reducible refine Below.setCell ?_ ?_ _) | (with_reducible refine below_drewN ?_ _) | (with_reducible refine Below.drew ?_) | (with_reducible refine below_via (by with_reducible assumption) ?_ ?_) | (first | (with_reducible assumption) | omega | (simp only [World.size_alloc, World.size_setCell, World.size_drew, World.heap_drewN] <;> omega) | (simp <;> omega)))))).mono ?_
      rintro e w1 ⟨rfl, hb1⟩
      have hz_w1 := hb1.size
      try simp only [World.size_alloc, World.size_setCell] at hz_w1
      have all_c : w1.cell? ⟨w.heap.size, 0, none⟩ = some (.int .i64 seg) ∧ w1.cell? ⟨w.heap.size, 1, none⟩ = some (.slice wa ws.length wc) ∧ w1.cell? ⟨w.heap.size, 2, none⟩ = some (.slice (some ⟨b, off, none⟩) ks.length kc) ∧ w1.cell? ⟨w.heap.size, 3, none⟩ = some (.slice va vs.length vc) ∧ w1.cell? ⟨w.heap.size, 4, none⟩ = some (.slice ca cs.length cc) ∧ w1.cell? ⟨w.heap.size, 5, none⟩ = some (.int .u64 laid) := by refine ⟨?_, ?_, ?_, ?_, ?_, ?_⟩ <;> (refine (hb1.cell ?_).trans ?_ <;> first | (first | (with_reducible assumption) | omega | (simp only [World.size_alloc, World.size_setCell, World.size_drew, World.heap_drewN] <;> omega) | (simp <;> omega)) | (first | (with_reducible assumption) | ((try simp (disch := first | omega | (simp only [World.size_alloc, World.size_setCell, World.size_drew, World.heap_drewN] <;> omega) | fail) only [World.cell?_alloc_past, World.cell?_alloc_at, World.frozen?_alloc_past, World.frozen?_alloc_at, World.frozen?_setCell, World.cell?_drew, World.frozen?_drew]) <;> first | (with_reducible assumption) | rfl)))
      have all_z : w.heap.size < w1.heap.size := by omega
      obtain ⟨c_t0, c_t1, c_t2, c_t3, c_t4, c_t5⟩ := all_c
      try clear all_c
      have z_t := all_z
      try clear all_z
      have hB1 : Below w.heap.size w w1 := by (repeat (first | (with_reducible exact Below.refl _ _) | (with_reducible assumption) | (with_reducible exact Hid.out (by with_reducible assumption)) | (with_reducible refine Below.alloc ?_ ?_ _) | (with_reducible refine Below.setCell ?_ ?_ _) | (with_reducible refine below_drewN ?_ _) | (with_reducible refine Below.drew ?_) | (with_reducible refine below_via (by with_reducible assumption) ?_ ?_) | (first | (with_reducible assumption) | omega | (simp only [World.size_alloc, World.size_setCell, World.size_drew, World.heap_drewN] <;> omega) | (simp <;> omega))))
      replace hc := (hB1.cell (World.block_lt_of_cell? _ _ hc)).trans hc
      go_wp2
      go_ret2
      exact ⟨rfl, hB1⟩
    · have e : findV c key = (0, 6) := by rw [findV, if_pos h0, e1, Int.toNat_natCast, if_neg (fun h => hk (hx.out.symm.trans h))]
      rw [e]
      obtain ⟨seg, ws, ks, vs, cs, laid⟩ := c
      obtain ⟨wa, ka, va, ca, wc, kc, vc, cc⟩ := a
      dsimp only [slV] at *
      subst hka
      have g1 : (x != key) = true := by simpa using hk
      clear hin hT hl hl2 e e1 h0 hx hk
      go_enter Tryd.func7, Tryd.ntmps7
      go_wp2_with fail
      refine (NX.out _ (by (repeat (first | (with_reducible exact Below.refl _ _) | (with_reducible assumption) | (with_reducible exact Hid.out (by with_reducible assumption)) | (with_reducible refine Below.alloc ?_ ?_ _) | (with_reducible refine Below.setCell ?_ ?_ _) | (with_reducible refine below_drewN ?_ _) | (with_reducible refine Below.drew ?_) | (with_reducible refine below_via (by with_reducible assumption) ?_ ?_) | (first | (with_reducible assumption) | omega | (simp only [World.size_alloc, World.size_setCell, World.size_drew, World.heap_drewN] <;> omega) | (simp <;> omega)))))).mono ?_
      rintro e w1 ⟨rfl, hb1⟩
      have hz_w1 := hb1.size
      try simp only [World.size_alloc, World.size_setCell] at hz_w1
      have all_c : w1.cell? ⟨w.heap.size, 0, none⟩ = some (.int .i64 seg) ∧ w1.cell? ⟨w.heap.size, 1, none⟩ = some (.slice wa ws.length wc) ∧ w1.cell? ⟨w.heap.size, 2, none⟩ = some (.slice (some ⟨b, off, none⟩) ks.length kc) ∧ w1.cell? ⟨w.heap.size, 3, none⟩ = some (.slice va vs.length vc) ∧ w1.cell? ⟨w.heap.size, 4, none⟩ = some (.slice ca cs.length cc) ∧ w1.cell? ⟨w.heap.size, 5, none⟩ = some (.int .u64 laid) := by refine ⟨?_, ?_, ?_, ?_, ?_, ?_⟩ <;> (refine (hb1.cell ?_).trans ?_ <;> first | (first | (with_reducible assumption) | omega | (simp only [World.size_alloc, World.size_setCell, World.size_drew, World.heap_drewN] <;> omega) | (simp <;> omega)) | (first | (with_reducible assumption) | ((try simp (disch := first | omega | (simp only [World.size_alloc, World.size_setCell, World.size_drew, World.heap_drewN] <;> omega) | fail) only [World.cell?_alloc_past, World.cell?_alloc_at, World.frozen?_alloc_past, World.frozen?_alloc_at, World.frozen?_setCell, World.cell?_drew, World.frozen?_drew]) <;> first | (with_reducible assumption) | rfl)))
      have all_z : w.heap.size < w1.heap.size := by omega
      obtain ⟨c_t0, c_t1, c_t2, c_t3, c_t4, c_t5⟩ := all_c
      try clear all_c
      have z_t := all_z
      try clear all_z
      have hB1 : Below w.heap.size w w1 := by (repeat (first | (with_reducible exact Below.refl _ _) | (with_reducible assumption) | (with_reducible exact Hid.out (by with_reducible assumption)) | (with_reducible refine Below.alloc ?_ ?_ _) | (with_reducible refine Below.setCell ?_ ?_ _) | (with_reducible refine below_drewN ?_ _) | (with_reducible refine Below.drew ?_) | (with_reducible refine below_via (by with_reducible assumption) ?_ ?_) | (first | (with_reducible assumption) | omega | (simp only [World.size_alloc, World.size_setCell, World.size_drew, World.heap_drewN] <;> omega) | (simp <;> omega))))
      replace hc := (hB1.cell (World.block_lt_of_cell? _ _ hc)).trans hc
      go_wp2
      go_ret2
      exact ⟨rfl, hB1⟩
  · have e : findV c key = (0, (nextV c key).2) := by rw [findV, if_neg h0]
    rw [e]
    have g1 : ((nextV c key).2 != 0) = true := by simpa using h0
    generalize nextV c key = R at *
    obtain ⟨seg, ws, ks, vs, cs, laid⟩ := c
    obtain ⟨wa, ka, va, ca, wc, kc, vc, cc⟩ := a
    dsimp only [slV] at *
    clear hin hT hl hl2 e h0
    go_enter Tryd.func7, Tryd.ntmps7
    go_wp2_with fail
    refine (NX.out _ (by (repeat (first | (with_reducible exact Below.refl _ _) | (with_reducible assumption) | (with_reducible exact Hid.out (by with_reducible assumption)) | (with_reducible refine Below.alloc ?_ ?_ _) | (with_reducible refine Below.setCell ?_ ?_ _) | (with_reducible refine below_drewN ?_ _) | (with_reducible refine Below.drew ?_) | (with_reducible refine below_via (by with_reducible assumption) ?_ ?_) | (first | (with_reducible assumption) | omega | (simp only [World.size_alloc, World.size_setCell, World.size_drew, World.heap_drewN] <;> omega) | (simp <;> omega)))))).mono ?_
    rintro e w1 ⟨rfl, hb1⟩
    have hz_w1 := hb1.size
    try simp only [World.size_alloc, World.size_setCell] at hz_w1
    have all_c : w1.cell? ⟨w.heap.size, 0, none⟩ = some (.int .i64 seg) ∧ w1.cell? ⟨w.heap.size, 1, none⟩ = some (.slice wa ws.length wc) ∧ w1.cell? ⟨w.heap.size, 2, none⟩ = some (.slice ka ks.length kc) ∧ w1.cell? ⟨w.heap.size, 3, none⟩ = some (.slice va vs.length vc) ∧ w1.cell? ⟨w.heap.size, 4, none⟩ = some (.slice ca cs.length cc) ∧ w1.cell? ⟨w.heap.size, 5, none⟩ = some (.int .u64 laid) := by refine ⟨?_, ?_, ?_, ?_, ?_, ?_⟩ <;> (refine (hb1.cell ?_).trans ?_ <;> first | (first | (with_reducible assumption) | omega | (simp only [World.size_alloc, World.size_setCell, World.size_drew, World.heap_drewN] <;> omega) | (simp <;> omega)) | (first | (with_reducible assumption) | ((try simp (disch := first | omega | (simp only [World.size_alloc, World.size_setCell, World.size_drew, World.heap_drewN] <;> omega) | fail) only [World.cell?_alloc_past, World.cell?_alloc_at, World.frozen?_alloc_past, World.frozen?_alloc_at, World.frozen?_setCell, World.cell?_drew, World.frozen?_drew]) <;> first | (with_reducible assumption) | rfl)))
    have all_z : w.heap.size < w1.heap.size := by omega
    obtain ⟨c_t0, c_t1, c_t2, c_t3, c_t4, c_t5⟩ := all_c
    try clear all_c
    have z_t := all_z
    try clear all_z
    have hB1 : Below w.heap.size w w1 := by (repeat (first | (with_reducible exact Below.refl _ _) | (with_reducible assumption) | (with_reducible exact Hid.out (by with_reducible assumption)) | (with_reducible refine Below.alloc ?_ ?_ _) | (with_reducible refine Below.setCell ?_ ?_ _) | (with_reducible refine below_drewN ?_ _) | (with_reducible refine Below.drew ?_) | (with_reducible refine below_via (by with_reducible assumption) ?_ ?_) | (first | (with_reducible assumption) | omega | (simp only [World.size_alloc, World.size_setCell, World.size_drew, World.heap_drewN] <;> omega) | (simp <;> omega))))
    go_wp2
    go_ret2
    exact ⟨rfl, hB1⟩
end Go.Proofs.YtelckhfmchnpnaaDoor
