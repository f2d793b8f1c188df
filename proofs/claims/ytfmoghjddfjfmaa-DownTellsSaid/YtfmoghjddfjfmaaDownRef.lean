/- The walks of the reference's Home, Nth and Ahead. -/
import Derived.Test.YtfmoghjddfjfmaaDownLvs
import Derived.Test.YtfmoghjddfjfmaaDownAhead
namespace Go.Proofs.Ytfmoghjddfjfmaa
open Go.RowKit
set_option linter.unusedVariables false
set_option linter.unusedSimpArgs false

theorem homeL_drop {key : Int} {l : List (Int × Int)} {i : Nat} {m c s : Int} (h : l[i]? = some (m, c)) : homeL key (l.drop i) i s = if srv key m c then ((i : Int), s, 0) else homeL key (l.drop (i + 1)) ((i + 1 : Nat) : Int) (s + c) := by
  obtain ⟨h1, h2⟩ := List.getElem?_eq_some_iff.1 h
  rw [List.drop_eq_getElem_cons h1, h2, homeL]
  push_cast
  rfl
theorem nthL_drop {l : List (Int × Int)} {i : Nat} {m c k : Int} (h : l[i]? = some (m, c)) : nthL (l.drop i) i k = if k < c then ((i : Int), k, 0) else nthL (l.drop (i + 1)) ((i + 1 : Nat) : Int) (k - c) := by
  obtain ⟨h1, h2⟩ := List.getElem?_eq_some_iff.1 h
  rw [List.drop_eq_getElem_cons h1, h2, nthL]
  push_cast
  rfl
theorem cntL_take_succ {l : List (Int × Int)} {i : Nat} {m c : Int} (h : l[i]? = some (m, c)) : cntL (l.take (i + 1)) = cntL (l.take i) + c := by
  obtain ⟨h1, h2⟩ := List.getElem?_eq_some_iff.1 h
  rw [List.take_succ_eq_append_getElem h1, cntL_append, h2, cntL_cons]
  simp [cntL]
/-- the leaves in memory, as the reference has them -/
def LvsIn (g F : Nat) (lv : List (Int × Int)) (w : World) : Prop := lv.length = F ∧ ∀ i m c, lv[i]? = some (m, c) → w.cell? ⟨g, F * 2 + i * 2, none⟩ = some (.int .i64 m) ∧ w.cell? ⟨g, F * 2 + i * 2 + 1, none⟩ = some (.int .i64 c)
theorem LvsIn.of {w : World} {B g N F D : Nat} {a b : Nat → Int} (h : w.ownsRow B 56 2 (.slice (some ⟨g, 0, none⟩) (N + 1) (N + 1)) (N + 1) (nrRow a b (N + 1))) (hNF : N + 1 = 2 * F) (hF : 2 ^ D = F) : LvsIn g F (lvs a b D 1) w := by
  refine ⟨by rw [lvs_length, hF], fun i m c hi => ?_⟩
  have hil := (List.getElem?_eq_some_iff.1 hi).1
  rw [lvs_length, hF] at hil
  rw [lvs_get _ _ _ (by omega), hF, Nat.one_mul] at hi
  simp only [Option.some.injEq, Prod.mk.injEq] at hi
  obtain ⟨h1, h2⟩ := nr_cells h (n := F + i) (by omega)
  rw [← hi.1, ← hi.2, show F * 2 + i * 2 = (F + i) * 2 by omega]
  exact ⟨h1, h2⟩
theorem lv_some {F : Nat} {lv : List (Int × Int)} {i : Nat} (h : lv.length = F) (hi : i < F) : ∃ m c, lv[i]? = some (m, c) := ⟨(lv[i]'(by omega)).1, (lv[i]'(by omega)).2, List.getElem?_eq_getElem (by omega)⟩

set_option maxRecDepth 100000 in
set_option maxHeartbeats 1000000 in
theorem Home19_ix (l key : Int) (ma ca : Option Addr) (mc cc : Nat) (ms cs : List Int) (w : World) (hm : IsRow .i64 w ma ms) (hc : IsRow .i64 w ca cs) :
    Calls Try.prog 10 #[ixV l ma ms.length mc ca cs.length cc, .int .i64 key] w (Ans w (.tuple #[.int .i64 (homT l ms cs key).1, .int .i64 (homT l ms cs key).2.1, .int .i64 (homT l ms cs key).2.2])) := by
  have MY := Lib.hid (fun (W : World) (hb : Below w.heap.size w W) => May_ix l ma ca mc cc ms cs W (hm.below hb) (hc.below hb))
  by_cases hmay : ixMay l ms cs = true
  · obtain ⟨L, D, N, F, hl, h1, h2, hN, hD, hF, hNF, hFb, hF0, hL, hLD, hlm, hlc, hg⟩ := ixMay_parts hmay
    have LV := Lib.hid (fun (W : World) (hb : Below w.heap.size w W) => Leaves_ok L N F l hl h1 h2 hN hNF ma ca mc cc ms cs hlm hlc W (hm.below hb) (hc.below hb))
    have et : homT l ms cs key = homeL key (lvs (tlF L ms) (tlF L cs) D 1) 0 0 := by rw [homT, if_pos hmay, lvsR, hLD, hL]
    rw [et]
    rw [hlm, hlc, hmay] at MY
    rw [hlm, hlc]
    have hlv : ∀ (g : Nat) (B : Nat) (W : World), W.ownsRow B 56 2 (.slice (some ⟨g, 0, none⟩) (N + 1) (N + 1)) (N + 1) (nrRow (tlF L ms) (tlF L cs) (N + 1)) → LvsIn g F (lvs (tlF L ms) (tlF L cs) D 1) W := fun _ _ _ h => LvsIn.of h hNF hF
    have htot := own_facts hg.own
    rw [← hg.cnt] at htot
    have hbd := fun n => cntL_take (l := lvs (tlF L ms) (tlF L cs) D 1) hg.nonneg n
    have hnn := hg.nonneg
    have HLV := Lib.hid hlv
    clear hlv
    generalize hlvv : lvs (tlF L ms) (tlF L cs) D 1 = lv at *
    have HB := Lib.hid hbd
    have HNN := Lib.hid hnn
    obtain ⟨R, hR⟩ : ∃ R, homeL key lv 0 0 = R := ⟨_, rfl⟩
    have HR := Lib.hid hR
    rw [hR]
    clear hmay hN hD hF hL hLD hlm hlc hg et hl h1 h2 hlvv hbd hnn hR hm hc
    obtain ⟨t1, t2, -⟩ := htot
    go_enter Try.func10, Try.ntmps10
    go_wp2_with fail
    refine (MY.out _ (by (repeat (first | (with_reducible exact Below.refl _ _) | (with_reducible assumption) | (with_reducible exact Hid.out (by with_reducible assumption)) | (with_reducible refine Below.alloc ?_ ?_ _) | (with_reducible refine Below.setCell ?_ ?_ _) | (with_reducible refine below_drewN ?_ _) | (with_reducible refine Below.drew ?_) | (with_reducible refine below_via (by with_reducible assumption) ?_ ?_) | (first | (with_reducible assumption) | omega | (simp only [World.size_alloc, World.size_setCell, World.size_drew, World.heap_drewN] <;> omega) | (simp <;> omega)))))).mono ?_
    rintro e w1 ⟨rfl, hb1⟩
    have hz_w1 := hb1.size
    try simp only [World.size_alloc, World.size_setCell] at hz_w1
    have c_t0 : w1.cell? ⟨w.heap.size, 0, none⟩ = some (.int .i64 l) := (hb1.cell (p := ⟨w.heap.size, 0, none⟩) (by (first | (with_reducible assumption) | omega | (simp only [World.size_alloc, World.size_setCell, World.size_drew, World.heap_drewN] <;> omega) | (simp <;> omega)))).trans (by (first | (with_reducible assumption) | ((try simp (disch := first | omega | (simp only [World.size_alloc, World.size_setCell, World.size_drew, World.heap_drewN] <;> omega) | fail) only [World.cell?_alloc_past, World.cell?_alloc_at, World.frozen?_alloc_past, World.frozen?_alloc_at, World.frozen?_setCell, World.cell?_drew, World.frozen?_drew]) <;> first | (with_reducible assumption) | rfl)))
    have c_t1 : w1.cell? ⟨w.heap.size, 1, none⟩ = some (.slice ma N mc) := (hb1.cell (p := ⟨w.heap.size, 1, none⟩) (by (first | (with_reducible assumption) | omega | (simp only [World.size_alloc, World.size_setCell, World.size_drew, World.heap_drewN] <;> omega) | (simp <;> omega)))).trans (by (first | (with_reducible assumption) | ((try simp (disch := first | omega | (simp only [World.size_alloc, World.size_setCell, World.size_drew, World.heap_drewN] <;> omega) | fail) only [World.cell?_alloc_past, World.cell?_alloc_at, World.frozen?_alloc_past, World.frozen?_alloc_at, World.frozen?_setCell, World.cell?_drew, World.frozen?_drew]) <;> first | (with_reducible assumption) | rfl)))
    have c_t2 : w1.cell? ⟨w.heap.size, 2, none⟩ = some (.slice ca N cc) := (hb1.cell (p := ⟨w.heap.size, 2, none⟩) (by (first | (with_reducible assumption) | omega | (simp only [World.size_alloc, World.size_setCell, World.size_drew, World.heap_drewN] <;> omega) | (simp <;> omega)))).trans (by (first | (with_reducible assumption) | ((try simp (disch := first | omega | (simp only [World.size_alloc, World.size_setCell, World.size_drew, World.heap_drewN] <;> omega) | fail) only [World.cell?_alloc_past, World.cell?_alloc_at, World.frozen?_alloc_past, World.frozen?_alloc_at, World.frozen?_setCell, World.cell?_drew, World.frozen?_drew]) <;> first | (with_reducible assumption) | rfl)))
    have z_t : w.heap.size < w1.heap.size := by omega
    have hB1 : Below w.heap.size w w1 := by (repeat (first | (with_reducible exact Below.refl _ _) | (with_reducible assumption) | (with_reducible exact Hid.out (by with_reducible assumption)) | (with_reducible refine Below.alloc ?_ ?_ _) | (with_reducible refine Below.setCell ?_ ?_ _) | (with_reducible refine below_drewN ?_ _) | (with_reducible refine Below.drew ?_) | (with_reducible refine below_via (by with_reducible assumption) ?_ ?_) | (first | (with_reducible assumption) | omega | (simp only [World.size_alloc, World.size_setCell, World.size_drew, World.heap_drewN] <;> omega) | (simp <;> omega))))
    go_wp2_with fail
    refine (LV.out _ hB1).mono ?_
    rintro e w2 ⟨g, rfl, ho, hb2⟩
    have hz_w2 := hb2.size
    try simp only [World.size_alloc, World.size_setCell] at hz_w2
    replace c_t0 : w2.cell? ⟨w.heap.size, 0, none⟩ = some (.int .i64 l) := (hb2.cell (p := ⟨w.heap.size, 0, none⟩) (by (first | (with_reducible assumption) | omega | (simp only [World.size_alloc, World.size_setCell, World.size_drew, World.heap_drewN] <;> omega) | (simp <;> omega)))).trans (by (first | (with_reducible assumption) | ((try simp (disch := first | omega | (simp only [World.size_alloc, World.size_setCell, World.size_drew, World.heap_drewN] <;> omega) | fail) only [World.cell?_alloc_past, World.cell?_alloc_at, World.frozen?_alloc_past, World.frozen?_alloc_at, World.frozen?_setCell, World.cell?_drew, World.frozen?_drew]) <;> first | (with_reducible assumption) | rfl)))
    replace c_t1 : w2.cell? ⟨w.heap.size, 1, none⟩ = some (.slice ma N mc) := (hb2.cell (p := ⟨w.heap.size, 1, none⟩) (by (first | (with_reducible assumption) | omega | (simp only [World.size_alloc, World.size_setCell, World.size_drew, World.heap_drewN] <;> omega) | (simp <;> omega)))).trans (by (first | (with_reducible assumption) | ((try simp (disch := first | omega | (simp only [World.size_alloc, World.size_setCell, World.size_drew, World.heap_drewN] <;> omega) | fail) only [World.cell?_alloc_past, World.cell?_alloc_at, World.frozen?_alloc_past, World.frozen?_alloc_at, World.frozen?_setCell, World.cell?_drew, World.frozen?_drew]) <;> first | (with_reducible assumption) | rfl)))
    replace c_t2 : w2.cell? ⟨w.heap.size, 2, none⟩ = some (.slice ca N cc) := (hb2.cell (p := ⟨w.heap.size, 2, none⟩) (by (first | (with_reducible assumption) | omega | (simp only [World.size_alloc, World.size_setCell, World.size_drew, World.heap_drewN] <;> omega) | (simp <;> omega)))).trans (by (first | (with_reducible assumption) | ((try simp (disch := first | omega | (simp only [World.size_alloc, World.size_setCell, World.size_drew, World.heap_drewN] <;> omega) | fail) only [World.cell?_alloc_past, World.cell?_alloc_at, World.frozen?_alloc_past, World.frozen?_alloc_at, World.frozen?_setCell, World.cell?_drew, World.frozen?_drew]) <;> first | (with_reducible assumption) | rfl)))
    replace z_t : w.heap.size < w2.heap.size := by omega
    have hB2 : Below w.heap.size w w2 := by (repeat (first | (with_reducible exact Below.refl _ _) | (with_reducible assumption) | (with_reducible exact Hid.out (by with_reducible assumption)) | (with_reducible refine Below.alloc ?_ ?_ _) | (with_reducible refine Below.setCell ?_ ?_ _) | (with_reducible refine below_drewN ?_ _) | (with_reducible refine Below.drew ?_) | (with_reducible refine below_via (by with_reducible assumption) ?_ ?_) | (first | (with_reducible assumption) | omega | (simp only [World.size_alloc, World.size_setCell, World.size_drew, World.heap_drewN] <;> omega) | (simp <;> omega))))
    obtain ⟨hll, hcell⟩ := HLV.out _ _ _ ho
    have HL := Lib.hid hll
    have HC := Lib.hid hcell
    have HB2 := Lib.hid hB2
    clear ho hb1 hB1 hb2 hB2 hll hcell hNF
    go_wp2
    go_loopg [8, 9] F (fun gk sv iv wr => ∃ (i : Nat) (s : Int), i + gk = F ∧ iv = .int .i64 i ∧ sv = .int .i64 s ∧ wr = w2 ∧ Hid (s = cntL (lv.take i)) ∧ Hid (homeL key lv 0 0 = homeL key (lv.drop i) i s))
    case atStart => exact ⟨0, 0, by omega, rfl, rfl, rfl, Lib.hid (by simp [cntL]), Lib.hid (by simp)⟩
    case round =>
      obtain ⟨i, s, hi, rfl, rfl, rfl, HS, HH⟩ := hrel
      by_cases hlt : i < F
      · obtain ⟨m, c, hmc⟩ := lv_some HL.out hlt
        obtain ⟨d1, d2⟩ := HC.out i m c hmc
        have hd := homeL_drop (key := key) (s := s) hmc
        have ht := cntL_take_succ hmc
        have b1 := HB.out i
        have b2 := HB.out (i + 1)
        rw [← HS.out] at b1 ht
        rw [ht] at b2
        by_cases hs : srv key m c
        · rw [if_pos hs] at hd
          obtain ⟨s1, s2⟩ := hs
          have HD := Lib.hid hd
          clear hd ht
          go_wp2
          go_ret3
          rw [← HR.out, HH.out, HD.out]
          exact ⟨rfl, HB2.out⟩
        · rw [if_neg hs] at hd
          have HD := Lib.hid hd
          have HT := Lib.hid ht
          have hsp : c ≤ 0 ∨ (0 < c ∧ m < key) := by
            unfold srv at hs
            omega
          clear hd ht hs
          rcases hsp with hs1 | ⟨hs1, hs2⟩
          all_goals
            go_wp2
            go_roundg (gk - 1)
            case measure => omega
            case rel => exact ⟨i + 1, s + c, by omega, by push_cast; rfl, rfl, rfl, Lib.hid HT.out.symm, Lib.hid (HH.out.trans HD.out)⟩
      · have hiF : i = F := by omega
        have hd : homeL key (lv.drop i) i s = (0, 0, 6) := by rw [List.drop_eq_nil_of_le (by rw [HL.out]; omega)]; rfl
        have HD := Lib.hid hd
        clear hd
        go_wp2
        go_ret3
        rw [← HR.out, HH.out, HD.out]
        exact ⟨rfl, HB2.out⟩
  · have e0 : ixMay l ms cs = false := by simpa using hmay
    have et : homT l ms cs key = (0, 0, 8) := if_neg hmay
    rw [e0] at MY
    rw [et]
    clear e0 et hmay hm hc
    go_enter Try.func10, Try.ntmps10
    go_wp2_with fail
    refine (MY.out _ (by (repeat (first | (with_reducible exact Below.refl _ _) | (with_reducible assumption) | (with_reducible exact Hid.out (by with_reducible assumption)) | (with_reducible refine Below.alloc ?_ ?_ _) | (with_reducible refine Below.setCell ?_ ?_ _) | (with_reducible refine below_drewN ?_ _) | (with_reducible refine Below.drew ?_) | (with_reducible refine below_via (by with_reducible assumption) ?_ ?_) | (first | (with_reducible assumption) | omega | (simp only [World.size_alloc, World.size_setCell, World.size_drew, World.heap_drewN] <;> omega) | (simp <;> omega)))))).mono ?_
    rintro e w1 ⟨rfl, hb1⟩
    go_wp2
    go_ret3
    exact ⟨rfl, by (repeat (first | (with_reducible exact Below.refl _ _) | (with_reducible assumption) | (with_reducible exact Hid.out (by with_reducible assumption)) | (with_reducible refine Below.alloc ?_ ?_ _) | (with_reducible refine Below.setCell ?_ ?_ _) | (with_reducible refine below_drewN ?_ _) | (with_reducible refine Below.drew ?_) | (with_reducible refine below_via (by with_reducible assumption) ?_ ?_) | (first | (with_reducible assumption) | omega | (simp only [World.size_alloc, World.size_setCell, World.size_drew, World.heap_drewN] <;> omega) | (simp <;> omega))))⟩

set_option maxRecDepth 100000 in
set_option maxHeartbeats 1000000 in
theorem Nth19_ix (l k : Int) (hk1 : -9223372036854775808 ≤ k) (hk2 : k ≤ 9223372036854775807) (ma ca : Option Addr) (mc cc : Nat) (ms cs : List Int) (w : World) (hm : IsRow .i64 w ma ms) (hc : IsRow .i64 w ca cs) :
    Calls Try.prog 12 #[ixV l ma ms.length mc ca cs.length cc, .int .i64 k] w (Ans w (.tuple #[.int .i64 (nthT l ms cs k).1, .int .i64 (nthT l ms cs k).2.1, .int .i64 (nthT l ms cs k).2.2])) := by
  have MY := Lib.hid (fun (W : World) (hb : Below w.heap.size w W) => May_ix l ma ca mc cc ms cs W (hm.below hb) (hc.below hb))
  by_cases hmay : ixMay l ms cs = true
  · obtain ⟨L, D, N, F, hl, h1, h2, hN, hD, hF, hNF, hFb, hF0, hL, hLD, hlm, hlc, hg⟩ := ixMay_parts hmay
    have LV := Lib.hid (fun (W : World) (hb : Below w.heap.size w W) => Leaves_ok L N F l hl h1 h2 hN hNF ma ca mc cc ms cs hlm hlc W (hm.below hb) (hc.below hb))
    have et : nthT l ms cs k = if k < 0 then (0, 0, 290) else nthL (lvs (tlF L ms) (tlF L cs) D 1) 0 k := by rw [nthT, if_pos hmay, lvsR, hLD, hL]
    rw [et]
    rw [hlm, hlc, hmay] at MY
    rw [hlm, hlc]
    by_cases hk : k < 0
    · rw [if_pos hk]
      clear hmay hN hD hF hL hLD hlm hlc hg et hl h1 h2 hm hc LV hNF
      go_enter Try.func12, Try.ntmps12
      go_wp2_with fail
      refine (MY.out _ (by (repeat (first | (with_reducible exact Below.refl _ _) | (with_reducible assumption) | (with_reducible exact Hid.out (by with_reducible assumption)) | (with_reducible refine Below.alloc ?_ ?_ _) | (with_reducible refine Below.setCell ?_ ?_ _) | (with_reducible refine below_drewN ?_ _) | (with_reducible refine Below.drew ?_) | (with_reducible refine below_via (by with_reducible assumption) ?_ ?_) | (first | (with_reducible assumption) | omega | (simp only [World.size_alloc, World.size_setCell, World.size_drew, World.heap_drewN] <;> omega) | (simp <;> omega)))))).mono ?_
      rintro e w1 ⟨rfl, hb1⟩
      have hz_w1 := hb1.size
      try simp only [World.size_alloc, World.size_setCell] at hz_w1
      have c_t0 : w1.cell? ⟨w.heap.size, 0, none⟩ = some (.int .i64 l) := (hb1.cell (p := ⟨w.heap.size, 0, none⟩) (by (first | (with_reducible assumption) | omega | (simp only [World.size_alloc, World.size_setCell, World.size_drew, World.heap_drewN] <;> omega) | (simp <;> omega)))).trans (by (first | (with_reducible assumption) | ((try simp (disch := first | omega | (simp only [World.size_alloc, World.size_setCell, World.size_drew, World.heap_drewN] <;> omega) | fail) only [World.cell?_alloc_past, World.cell?_alloc_at, World.frozen?_alloc_past, World.frozen?_alloc_at, World.frozen?_setCell, World.cell?_drew, World.frozen?_drew]) <;> first | (with_reducible assumption) | rfl)))
      have c_t1 : w1.cell? ⟨w.heap.size, 1, none⟩ = some (.slice ma N mc) := (hb1.cell (p := ⟨w.heap.size, 1, none⟩) (by (first | (with_reducible assumption) | omega | (simp only [World.size_alloc, World.size_setCell, World.size_drew, World.heap_drewN] <;> omega) | (simp <;> omega)))).trans (by (first | (with_reducible assumption) | ((try simp (disch := first | omega | (simp only [World.size_alloc, World.size_setCell, World.size_drew, World.heap_drewN] <;> omega) | fail) only [World.cell?_alloc_past, World.cell?_alloc_at, World.frozen?_alloc_past, World.frozen?_alloc_at, World.frozen?_setCell, World.cell?_drew, World.frozen?_drew]) <;> first | (with_reducible assumption) | rfl)))
      have c_t2 : w1.cell? ⟨w.heap.size, 2, none⟩ = some (.slice ca N cc) := (hb1.cell (p := ⟨w.heap.size, 2, none⟩) (by (first | (with_reducible assumption) | omega | (simp only [World.size_alloc, World.size_setCell, World.size_drew, World.heap_drewN] <;> omega) | (simp <;> omega)))).trans (by (first | (with_reducible assumption) | ((try simp (disch := first | omega | (simp only [World.size_alloc, World.size_setCell, World.size_drew, World.heap_drewN] <;> omega) | fail) only [World.cell?_alloc_past, World.cell?_alloc_at, World.frozen?_alloc_past, World.frozen?_alloc_at, World.frozen?_setCell, World.cell?_drew, World.frozen?_drew]) <;> first | (with_reducible assumption) | rfl)))
      have z_t : w.heap.size < w1.heap.size := by omega
      have hB1 : Below w.heap.size w w1 := by (repeat (first | (with_reducible exact Below.refl _ _) | (with_reducible assumption) | (with_reducible exact Hid.out (by with_reducible assumption)) | (with_reducible refine Below.alloc ?_ ?_ _) | (with_reducible refine Below.setCell ?_ ?_ _) | (with_reducible refine below_drewN ?_ _) | (with_reducible refine Below.drew ?_) | (with_reducible refine below_via (by with_reducible assumption) ?_ ?_) | (first | (with_reducible assumption) | omega | (simp only [World.size_alloc, World.size_setCell, World.size_drew, World.heap_drewN] <;> omega) | (simp <;> omega))))
      go_wp2
      go_ret3
      exact ⟨rfl, hB1⟩
    rw [if_neg hk]
    have hlv : ∀ (g : Nat) (B : Nat) (W : World), W.ownsRow B 56 2 (.slice (some ⟨g, 0, none⟩) (N + 1) (N + 1)) (N + 1) (nrRow (tlF L ms) (tlF L cs) (N + 1)) → LvsIn g F (lvs (tlF L ms) (tlF L cs) D 1) W := fun _ _ _ h => LvsIn.of h hNF hF
    have hnn := hg.nonneg
    have HLV := Lib.hid hlv
    clear hlv
    generalize hlvv : lvs (tlF L ms) (tlF L cs) D 1 = lv at *
    have HNN := Lib.hid hnn
    obtain ⟨R, hR⟩ : ∃ R, nthL lv 0 k = R := ⟨_, rfl⟩
    have HR := Lib.hid hR
    rw [hR]
    clear hmay hN hD hF hL hLD hlm hlc hg et hl h1 h2 hlvv hnn hR hm hc
    go_enter Try.func12, Try.ntmps12
    go_wp2_with fail
    refine (MY.out _ (by (repeat (first | (with_reducible exact Below.refl _ _) | (with_reducible assumption) | (with_reducible exact Hid.out (by with_reducible assumption)) | (with_reducible refine Below.alloc ?_ ?_ _) | (with_reducible refine Below.setCell ?_ ?_ _) | (with_reducible refine below_drewN ?_ _) | (with_reducible refine Below.drew ?_) | (with_reducible refine below_via (by with_reducible assumption) ?_ ?_) | (first | (with_reducible assumption) | omega | (simp only [World.size_alloc, World.size_setCell, World.size_drew, World.heap_drewN] <;> omega) | (simp <;> omega)))))).mono ?_
    rintro e w1 ⟨rfl, hb1⟩
    have hz_w1 := hb1.size
    try simp only [World.size_alloc, World.size_setCell] at hz_w1
    replace c_t0 : w1.cell? ⟨w.heap.size, 0, none⟩ = some (.int .i64 l) := (hb1.cell (p := ⟨w.heap.size, 0, none⟩) (by (first | (with_reducible assumption) | omega | (simp only [World.size_alloc, World.size_setCell, World.size_drew, World.heap_drewN] <;> omega) | (simp <;> omega)))).trans (by (first | (with_reducible assumption) | ((try simp (disch := first | omega | (simp only [World.size_alloc, World.size_setCell, World.size_drew, World.heap_drewN] <;> omega) | fail) only [World.cell?_alloc_past, World.cell?_alloc_at, World.frozen?_alloc_past, World.frozen?_alloc_at, World.frozen?_setCell, World.cell?_drew, World.frozen?_drew]) <;> first | (with_reducible assumption) | rfl)))
    replace c_t1 : w1.cell? ⟨w.heap.size, 1, none⟩ = some (.slice ma N mc) := (hb1.cell (p := ⟨w.heap.size, 1, none⟩) (by (first | (with_reducible assumption) | omega | (simp only [World.size_alloc, World.size_setCell, World.size_drew, World.heap_drewN] <;> omega) | (simp <;> omega)))).trans (by (first | (with_reducible assumption) | ((try simp (disch := first | omega | (simp only [World.size_alloc, World.size_setCell, World.size_drew, World.heap_drewN] <;> omega) | fail) only [World.cell?_alloc_past, World.cell?_alloc_at, World.frozen?_alloc_past, World.frozen?_alloc_at, World.frozen?_setCell, World.cell?_drew, World.frozen?_drew]) <;> first | (with_reducible assumption) | rfl)))
    replace c_t2 : w1.cell? ⟨w.heap.size, 2, none⟩ = some (.slice ca N cc) := (hb1.cell (p := ⟨w.heap.size, 2, none⟩) (by (first | (with_reducible assumption) | omega | (simp only [World.size_alloc, World.size_setCell, World.size_drew, World.heap_drewN] <;> omega) | (simp <;> omega)))).trans (by (first | (with_reducible assumption) | ((try simp (disch := first | omega | (simp only [World.size_alloc, World.size_setCell, World.size_drew, World.heap_drewN] <;> omega) | fail) only [World.cell?_alloc_past, World.cell?_alloc_at, World.frozen?_alloc_past, World.frozen?_alloc_at, World.frozen?_setCell, World.cell?_drew, World.frozen?_drew]) <;> first | (with_reducible assumption) | rfl)))
    replace z_t : w.heap.size < w1.heap.size := by omega
    have hB1 : Below w.heap.size w w1 := by (repeat (first | (with_reducible exact Below.refl _ _) | (with_reducible assumption) | (with_reducible exact Hid.out (by with_reducible assumption)) | (with_reducible refine Below.alloc ?_ ?_ _) | (with_reducible refine Below.setCell ?_ ?_ _) | (with_reducible refine below_drewN ?_ _) | (with_reducible refine Below.drew ?_) | (with_reducible refine below_via (by with_reducible assumption) ?_ ?_) | (first | (with_reducible assumption) | omega | (simp only [World.size_alloc, World.size_setCell, World.size_drew, World.heap_drewN] <;> omega) | (simp <;> omega))))
    go_wp2_with fail
    refine (LV.out _ hB1).mono ?_
    rintro e w2 ⟨g, rfl, ho, hb2⟩
    have hz_w2 := hb2.size
    try simp only [World.size_alloc, World.size_setCell] at hz_w2
    replace c_t0 : w2.cell? ⟨w.heap.size, 0, none⟩ = some (.int .i64 l) := (hb2.cell (p := ⟨w.heap.size, 0, none⟩) (by (first | (with_reducible assumption) | omega | (simp only [World.size_alloc, World.size_setCell, World.size_drew, World.heap_drewN] <;> omega) | (simp <;> omega)))).trans (by (first | (with_reducible assumption) | ((try simp (disch := first | omega | (simp only [World.size_alloc, World.size_setCell, World.size_drew, World.heap_drewN] <;> omega) | fail) only [World.cell?_alloc_past, World.cell?_alloc_at, World.frozen?_alloc_past, World.frozen?_alloc_at, World.frozen?_setCell, World.cell?_drew, World.frozen?_drew]) <;> first | (with_reducible assumption) | rfl)))
    replace c_t1 : w2.cell? ⟨w.heap.size, 1, none⟩ = some (.slice ma N mc) := (hb2.cell (p := ⟨w.heap.size, 1, none⟩) (by (first | (with_reducible assumption) | omega | (simp only [World.size_alloc, World.size_setCell, World.size_drew, World.heap_drewN] <;> omega) | (simp <;> omega)))).trans (by (first | (with_reducible assumption) | ((try simp (disch := first | omega | (simp only [World.size_alloc, World.size_setCell, World.size_drew, World.heap_drewN] <;> omega) | fail) only [World.cell?_alloc_past, World.cell?_alloc_at, World.frozen?_alloc_past, World.frozen?_alloc_at, World.frozen?_setCell, World.cell?_drew, World.frozen?_drew]) <;> first | (with_reducible assumption) | rfl)))
    replace c_t2 : w2.cell? ⟨w.heap.size, 2, none⟩ = some (.slice ca N cc) := (hb2.cell (p := ⟨w.heap.size, 2, none⟩) (by (first | (with_reducible assumption) | omega | (simp only [World.size_alloc, World.size_setCell, World.size_drew, World.heap_drewN] <;> omega) | (simp <;> omega)))).trans (by (first | (with_reducible assumption) | ((try simp (disch := first | omega | (simp only [World.size_alloc, World.size_setCell, World.size_drew, World.heap_drewN] <;> omega) | fail) only [World.cell?_alloc_past, World.cell?_alloc_at, World.frozen?_alloc_past, World.frozen?_alloc_at, World.frozen?_setCell, World.cell?_drew, World.frozen?_drew]) <;> first | (with_reducible assumption) | rfl)))
    replace z_t : w.heap.size < w2.heap.size := by omega
    have hB2 : Below w.heap.size w w2 := by (repeat (first | (with_reducible exact Below.refl _ _) | (with_reducible assumption) | (with_reducible exact Hid.out (by with_reducible assumption)) | (with_reducible refine Below.alloc ?_ ?_ _) | (with_reducible refine Below.setCell ?_ ?_ _) | (with_reducible refine below_drewN ?_ _) | (with_reducible refine Below.drew ?_) | (with_reducible refine below_via (by with_reducible assumption) ?_ ?_) | (first | (with_reducible assumption) | omega | (simp only [World.size_alloc, World.size_setCell, World.size_drew, World.heap_drewN] <;> omega) | (simp <;> omega))))
    obtain ⟨hll, hcell⟩ := HLV.out _ _ _ ho
    have HL := Lib.hid hll
    have HC := Lib.hid hcell
    have HB2 := Lib.hid hB2
    clear ho hb1 hB1 hb2 hB2 hll hcell hNF
    go_wp2
    go_loopg [1, 8] F (fun gk kv iv wr => ∃ (i : Nat) (q : Int), i + gk = F ∧ iv = .int .i64 i ∧ kv = .int .i64 q ∧ wr = w2 ∧ 0 ≤ q ∧ q ≤ 9223372036854775807 ∧ Hid (nthL lv 0 k = nthL (lv.drop i) i q))
    case atStart => exact ⟨0, k, by omega, rfl, rfl, rfl, by omega, by omega, Lib.hid (by simp)⟩
    case round =>
      obtain ⟨i, q, hi, rfl, rfl, rfl, hq0, hq1, HH⟩ := hrel
      by_cases hlt : i < F
      · obtain ⟨m, c, hmc⟩ := lv_some HL.out hlt
        obtain ⟨d1, d2⟩ := HC.out i m c hmc
        have hd := nthL_drop (k := q) hmc
        have hc0 : 0 ≤ c := HNN.out (m, c) (List.mem_of_getElem? hmc)
        by_cases hs : q < c
        · rw [if_pos hs] at hd
          have HD := Lib.hid hd
          clear hd
          go_wp2
          go_ret3
          rw [← HR.out, HH.out, HD.out]
          exact ⟨rfl, HB2.out⟩
        · rw [if_neg hs] at hd
          have HD := Lib.hid hd
          clear hd
          go_wp2
          go_roundg (gk - 1)
          case measure => omega
          case rel => exact ⟨i + 1, q - c, by omega, by push_cast; rfl, rfl, rfl, by omega, by omega, Lib.hid (HH.out.trans HD.out)⟩
      · have hiF : i = F := by omega
        have hd : nthL (lv.drop i) i q = (0, 0, 290) := by rw [List.drop_eq_nil_of_le (by rw [HL.out]; omega)]; rfl
        have HD := Lib.hid hd
        clear hd
        go_wp2
        go_ret3
        rw [← HR.out, HH.out, HD.out]
        exact ⟨rfl, HB2.out⟩
  · have e0 : ixMay l ms cs = false := by simpa using hmay
    have et : nthT l ms cs k = (0, 0, 8) := if_neg hmay
    rw [e0] at MY
    rw [et]
    clear e0 et hmay hm hc
    go_enter Try.func12, Try.ntmps12
    go_wp2_with fail
    refine (MY.out _ (by (repeat (first | (with_reducible exact Below.refl _ _) | (with_reducible assumption) | (with_reducible exact Hid.out (by with_reducible assumption)) | (with_reducible refine Below.alloc ?_ ?_ _) | (with_reducible refine Below.setCell ?_ ?_ _) | (with_reducible refine below_drewN ?_ _) | (with_reducible refine Below.drew ?_) | (with_reducible refine below_via (by with_reducible assumption) ?_ ?_) | (first | (with_reducible assumption) | omega | (simp only [World.size_alloc, World.size_setCell, World.size_drew, World.heap_drewN] <;> omega) | (simp <;> omega)))))).mono ?_
    rintro e w1 ⟨rfl, hb1⟩
    go_wp2
    go_ret3
    exact ⟨rfl, by (repeat (first | (with_reducible exact Below.refl _ _) | (with_reducible assumption) | (with_reducible exact Hid.out (by with_reducible assumption)) | (with_reducible refine Below.alloc ?_ ?_ _) | (with_reducible refine Below.setCell ?_ ?_ _) | (with_reducible refine below_drewN ?_ _) | (with_reducible refine Below.drew ?_) | (with_reducible refine below_via (by with_reducible assumption) ?_ ?_) | (first | (with_reducible assumption) | omega | (simp only [World.size_alloc, World.size_setCell, World.size_drew, World.heap_drewN] <;> omega) | (simp <;> omega))))⟩

set_option maxRecDepth 100000 in
set_option maxHeartbeats 1000000 in
theorem Ahead19_ix (l k : Int) (ma ca : Option Addr) (mc cc : Nat) (ms cs : List Int) (w : World) (hm : IsRow .i64 w ma ms) (hc : IsRow .i64 w ca cs) :
    Calls Try.prog 14 #[ixV l ma ms.length mc ca cs.length cc, .int .i64 k] w (Ans w (.tuple #[.int .i64 (ahT l ms cs k).1, .int .i64 (ahT l ms cs k).2])) := by
  have MY := Lib.hid (fun (W : World) (hb : Below w.heap.size w W) => May_ix l ma ca mc cc ms cs W (hm.below hb) (hc.below hb))
  by_cases hmay : ixMay l ms cs = true
  · obtain ⟨L, D, N, F, hl, h1, h2, hN, hD, hF, hNF, hFb, hF0, hL, hLD, hlm, hlc, hg⟩ := ixMay_parts hmay
    have LV := Lib.hid (fun (W : World) (hb : Below w.heap.size w W) => Leaves_ok L N F l hl h1 h2 hN hNF ma ca mc cc ms cs hlm hlc W (hm.below hb) (hc.below hb))
    have h2F : (2 : Int) ^ (l.toNat - 1) = (F : Int) := by rw [hLD, ← hF]; push_cast; rfl
    have et : ahT l ms cs k = if k < 0 ∨ (F : Int) ≤ k then (0, 2) else (cntL ((lvs (tlF L ms) (tlF L cs) D 1).take k.toNat), 0) := by rw [ahT, if_pos hmay, lvsR, hLD, hL, ← h2F, hLD]
    rw [et]
    rw [hlm, hlc, hmay] at MY
    rw [hlm, hlc]
    have hlv : ∀ (g : Nat) (B : Nat) (W : World), W.ownsRow B 56 2 (.slice (some ⟨g, 0, none⟩) (N + 1) (N + 1)) (N + 1) (nrRow (tlF L ms) (tlF L cs) (N + 1)) → LvsIn g F (lvs (tlF L ms) (tlF L cs) D 1) W := fun _ _ _ h => LvsIn.of h hNF hF
    have htot := own_facts hg.own
    rw [← hg.cnt] at htot
    have hbd := fun n => cntL_take (l := lvs (tlF L ms) (tlF L cs) D 1) hg.nonneg n
    have HLV := Lib.hid hlv
    clear hlv
    generalize hlvv : lvs (tlF L ms) (tlF L cs) D 1 = lv at *
    have HB := Lib.hid hbd
    clear hmay hN hD hF hL hLD hlm hlc hg et hl h1 h2 hlvv hbd hm hc h2F
    obtain ⟨t1, t2, -⟩ := htot
    by_cases hk : k < 0 ∨ (F : Int) ≤ k
    · rw [if_pos hk]
      have hsp : k < 0 ∨ (0 ≤ k ∧ (F : Int) ≤ k) := by omega
      clear hk
      rcases hsp with hk | ⟨hk, hk3⟩
      all_goals
        go_enter Try.func14, Try.ntmps14
        go_wp2_with fail
        refine (MY.out _ (by (repeat (first | (with_reducible exact Below.refl _ _) | (with_reducible assumption) | (with_reducible exact Hid.out (by with_reducible assumption)) | (with_reducible refine Below.alloc ?_ ?_ _) | (with_reducible refine Below.setCell ?_ ?_ _) | (with_reducible refine below_drewN ?_ _) | (with_reducible refine Below.drew ?_) | (with_reducible refine below_via (by with_reducible assumption) ?_ ?_) | (first | (with_reducible assumption) | omega | (simp only [World.size_alloc, World.size_setCell, World.size_drew, World.heap_drewN] <;> omega) | (simp <;> omega)))))).mono ?_
        rintro e w1 ⟨rfl, hb1⟩
        have hz_w1 := hb1.size
        try simp only [World.size_alloc, World.size_setCell] at hz_w1
        have c_t0 : w1.cell? ⟨w.heap.size, 0, none⟩ = some (.int .i64 l) := (hb1.cell (p := ⟨w.heap.size, 0, none⟩) (by (first | (with_reducible assumption) | omega | (simp only [World.size_alloc, World.size_setCell, World.size_drew, World.heap_drewN] <;> omega) | (simp <;> omega)))).trans (by (first | (with_reducible assumption) | ((try simp (disch := first | omega | (simp only [World.size_alloc, World.size_setCell, World.size_drew, World.heap_drewN] <;> omega) | fail) only [World.cell?_alloc_past, World.cell?_alloc_at, World.frozen?_alloc_past, World.frozen?_alloc_at, World.frozen?_setCell, World.cell?_drew, World.frozen?_drew]) <;> first | (with_reducible assumption) | rfl)))
        have c_t1 : w1.cell? ⟨w.heap.size, 1, none⟩ = some (.slice ma N mc) := (hb1.cell (p := ⟨w.heap.size, 1, none⟩) (by (first | (with_reducible assumption) | omega | (simp only [World.size_alloc, World.size_setCell, World.size_drew, World.heap_drewN] <;> omega) | (simp <;> omega)))).trans (by (first | (with_reducible assumption) | ((try simp (disch := first | omega | (simp only [World.size_alloc, World.size_setCell, World.size_drew, World.heap_drewN] <;> omega) | fail) only [World.cell?_alloc_past, World.cell?_alloc_at, World.frozen?_alloc_past, World.frozen?_alloc_at, World.frozen?_setCell, World.cell?_drew, World.frozen?_drew]) <;> first | (with_reducible assumption) | rfl)))
        have c_t2 : w1.cell? ⟨w.heap.size, 2, none⟩ = some (.slice ca N cc) := (hb1.cell (p := ⟨w.heap.size, 2, none⟩) (by (first | (with_reducible assumption) | omega | (simp only [World.size_alloc, World.size_setCell, World.size_drew, World.heap_drewN] <;> omega) | (simp <;> omega)))).trans (by (first | (with_reducible assumption) | ((try simp (disch := first | omega | (simp only [World.size_alloc, World.size_setCell, World.size_drew, World.heap_drewN] <;> omega) | fail) only [World.cell?_alloc_past, World.cell?_alloc_at, World.frozen?_alloc_past, World.frozen?_alloc_at, World.frozen?_setCell, World.cell?_drew, World.frozen?_drew]) <;> first | (with_reducible assumption) | rfl)))
        have z_t : w.heap.size < w1.heap.size := by omega
        have hB1 : Below w.heap.size w w1 := by (repeat (first | (with_reducible exact Below.refl _ _) | (with_reducible assumption) | (with_reducible exact Hid.out (by with_reducible assumption)) | (with_reducible refine Below.alloc ?_ ?_ _) | (with_reducible refine Below.setCell ?_ ?_ _) | (with_reducible refine below_drewN ?_ _) | (with_reducible refine Below.drew ?_) | (with_reducible refine below_via (by with_reducible assumption) ?_ ?_) | (first | (with_reducible assumption) | omega | (simp only [World.size_alloc, World.size_setCell, World.size_drew, World.heap_drewN] <;> omega) | (simp <;> omega))))
        go_wp2_with fail
        refine (LV.out _ hB1).mono ?_
        rintro e w2 ⟨g, rfl, ho, hb2⟩
        have hz_w2 := hb2.size
        try simp only [World.size_alloc, World.size_setCell] at hz_w2
        replace c_t0 : w2.cell? ⟨w.heap.size, 0, none⟩ = some (.int .i64 l) := (hb2.cell (p := ⟨w.heap.size, 0, none⟩) (by (first | (with_reducible assumption) | omega | (simp only [World.size_alloc, World.size_setCell, World.size_drew, World.heap_drewN] <;> omega) | (simp <;> omega)))).trans (by (first | (with_reducible assumption) | ((try simp (disch := first | omega | (simp only [World.size_alloc, World.size_setCell, World.size_drew, World.heap_drewN] <;> omega) | fail) only [World.cell?_alloc_past, World.cell?_alloc_at, World.frozen?_alloc_past, World.frozen?_alloc_at, World.frozen?_setCell, World.cell?_drew, World.frozen?_drew]) <;> first | (with_reducible assumption) | rfl)))
        replace c_t1 : w2.cell? ⟨w.heap.size, 1, none⟩ = some (.slice ma N mc) := (hb2.cell (p := ⟨w.heap.size, 1, none⟩) (by (first | (with_reducible assumption) | omega | (simp only [World.size_alloc, World.size_setCell, World.size_drew, World.heap_drewN] <;> omega) | (simp <;> omega)))).trans (by (first | (with_reducible assumption) | ((try simp (disch := first | omega | (simp only [World.size_alloc, World.size_setCell, World.size_drew, World.heap_drewN] <;> omega) | fail) only [World.cell?_alloc_past, World.cell?_alloc_at, World.frozen?_alloc_past, World.frozen?_alloc_at, World.frozen?_setCell, World.cell?_drew, World.frozen?_drew]) <;> first | (with_reducible assumption) | rfl)))
        replace c_t2 : w2.cell? ⟨w.heap.size, 2, none⟩ = some (.slice ca N cc) := (hb2.cell (p := ⟨w.heap.size, 2, none⟩) (by (first | (with_reducible assumption) | omega | (simp only [World.size_alloc, World.size_setCell, World.size_drew, World.heap_drewN] <;> omega) | (simp <;> omega)))).trans (by (first | (with_reducible assumption) | ((try simp (disch := first | omega | (simp only [World.size_alloc, World.size_setCell, World.size_drew, World.heap_drewN] <;> omega) | fail) only [World.cell?_alloc_past, World.cell?_alloc_at, World.frozen?_alloc_past, World.frozen?_alloc_at, World.frozen?_setCell, World.cell?_drew, World.frozen?_drew]) <;> first | (with_reducible assumption) | rfl)))
        replace z_t : w.heap.size < w2.heap.size := by omega
        have hB2 : Below w.heap.size w w2 := by (repeat (first | (with_reducible exact Below.refl _ _) | (with_reducible assumption) | (with_reducible exact Hid.out (by with_reducible assumption)) | (with_reducible refine Below.alloc ?_ ?_ _) | (with_reducible refine Below.setCell ?_ ?_ _) | (with_reducible refine below_drewN ?_ _) | (with_reducible refine Below.drew ?_) | (with_reducible refine below_via (by with_reducible assumption) ?_ ?_) | (first | (with_reducible assumption) | omega | (simp only [World.size_alloc, World.size_setCell, World.size_drew, World.heap_drewN] <;> omega) | (simp <;> omega))))
        have HB2 := Lib.hid hB2
        clear ho hb1 hB1 hb2 hB2 hNF
        go_wp2
        go_ret2
        exact ⟨rfl, HB2.out⟩
    · rw [if_neg hk]
      obtain ⟨j, rfl⟩ : ∃ j : Nat, k = j := ⟨k.toNat, by omega⟩
      rw [Int.toNat_natCast]
      have hjF : j < F := by omega
      have hk2 : (j : Int) < F := by omega
      clear hk
      go_enter Try.func14, Try.ntmps14
      go_wp2_with fail
      refine (MY.out _ (by (repeat (first | (with_reducible exact Below.refl _ _) | (with_reducible assumption) | (with_reducible exact Hid.out (by with_reducible assumption)) | (with_reducible refine Below.alloc ?_ ?_ _) | (with_reducible refine Below.setCell ?_ ?_ _) | (with_reducible refine below_drewN ?_ _) | (with_reducible refine Below.drew ?_) | (with_reducible refine below_via (by with_reducible assumption) ?_ ?_) | (first | (with_reducible assumption) | omega | (simp only [World.size_alloc, World.size_setCell, World.size_drew, World.heap_drewN] <;> omega) | (simp <;> omega)))))).mono ?_
      rintro e w1 ⟨rfl, hb1⟩
      have hz_w1 := hb1.size
      try simp only [World.size_alloc, World.size_setCell] at hz_w1
      replace c_t0 : w1.cell? ⟨w.heap.size, 0, none⟩ = some (.int .i64 l) := (hb1.cell (p := ⟨w.heap.size, 0, none⟩) (by (first | (with_reducible assumption) | omega | (simp only [World.size_alloc, World.size_setCell, World.size_drew, World.heap_drewN] <;> omega) | (simp <;> omega)))).trans (by (first | (with_reducible assumption) | ((try simp (disch := first | omega | (simp only [World.size_alloc, World.size_setCell, World.size_drew, World.heap_drewN] <;> omega) | fail) only [World.cell?_alloc_past, World.cell?_alloc_at, World.frozen?_alloc_past, World.frozen?_alloc_at, World.frozen?_setCell, World.cell?_drew, World.frozen?_drew]) <;> first | (with_reducible assumption) | rfl)))
      replace c_t1 : w1.cell? ⟨w.heap.size, 1, none⟩ = some (.slice ma N mc) := (hb1.cell (p := ⟨w.heap.size, 1, none⟩) (by (first | (with_reducible assumption) | omega | (simp only [World.size_alloc, World.size_setCell, World.size_drew, World.heap_drewN] <;> omega) | (simp <;> omega)))).trans (by (first | (with_reducible assumption) | ((try simp (disch := first | omega | (simp only [World.size_alloc, World.size_setCell, World.size_drew, World.heap_drewN] <;> omega) | fail) only [World.cell?_alloc_past, World.cell?_alloc_at, World.frozen?_alloc_past, World.frozen?_alloc_at, World.frozen?_setCell, World.cell?_drew, World.frozen?_drew]) <;> first | (with_reducible assumption) | rfl)))
      replace c_t2 : w1.cell? ⟨w.heap.size, 2, none⟩ = some (.slice ca N cc) := (hb1.cell (p := ⟨w.heap.size, 2, none⟩) (by (first | (with_reducible assumption) | omega | (simp only [World.size_alloc, World.size_setCell, World.size_drew, World.heap_drewN] <;> omega) | (simp <;> omega)))).trans (by (first | (with_reducible assumption) | ((try simp (disch := first | omega | (simp only [World.size_alloc, World.size_setCell, World.size_drew, World.heap_drewN] <;> omega) | fail) only [World.cell?_alloc_past, World.cell?_alloc_at, World.frozen?_alloc_past, World.frozen?_alloc_at, World.frozen?_setCell, World.cell?_drew, World.frozen?_drew]) <;> first | (with_reducible assumption) | rfl)))
      replace z_t : w.heap.size < w1.heap.size := by omega
      have hB1 : Below w.heap.size w w1 := by (repeat (first | (with_reducible exact Below.refl _ _) | (with_reducible assumption) | (with_reducible exact Hid.out (by with_reducible assumption)) | (with_reducible refine Below.alloc ?_ ?_ _) | (with_reducible refine Below.setCell ?_ ?_ _) | (with_reducible refine below_drewN ?_ _) | (with_reducible refine Below.drew ?_) | (with_reducible refine below_via (by with_reducible assumption) ?_ ?_) | (first | (with_reducible assumption) | omega | (simp only [World.size_alloc, World.size_setCell, World.size_drew, World.heap_drewN] <;> omega) | (simp <;> omega))))
      go_wp2_with fail
      refine (LV.out _ hB1).mono ?_
      rintro e w2 ⟨g, rfl, ho, hb2⟩
      have hz_w2 := hb2.size
      try simp only [World.size_alloc, World.size_setCell] at hz_w2
      replace c_t0 : w2.cell? ⟨w.heap.size, 0, none⟩ = some (.int .i64 l) := (hb2.cell (p := ⟨w.heap.size, 0, none⟩) (by (first | (with_reducible assumption) | omega | (simp only [World.size_alloc, World.size_setCell, World.size_drew, World.heap_drewN] <;> omega) | (simp <;> omega)))).trans (by (first | (with_reducible assumption) | ((try simp (disch := first | omega | (simp only [World.size_alloc, World.size_setCell, World.size_drew, World.heap_drewN] <;> omega) | fail) only [World.cell?_alloc_past, World.cell?_alloc_at, World.frozen?_alloc_past, World.frozen?_alloc_at, World.frozen?_setCell, World.cell?_drew, World.frozen?_drew]) <;> first | (with_reducible assumption) | rfl)))
      replace c_t1 : w2.cell? ⟨w.heap.size, 1, none⟩ = some (.slice ma N mc) := (hb2.cell (p := ⟨w.heap.size, 1, none⟩) (by (first | (with_reducible assumption) | omega | (simp only [World.size_alloc, World.size_setCell, World.size_drew, World.heap_drewN] <;> omega) | (simp <;> omega)))).trans (by (first | (with_reducible assumption) | ((try simp (disch := first | omega | (simp only [World.size_alloc, World.size_setCell, World.size_drew, World.heap_drewN] <;> omega) | fail) only [World.cell?_alloc_past, World.cell?_alloc_at, World.frozen?_alloc_past, World.frozen?_alloc_at, World.frozen?_setCell, World.cell?_drew, World.frozen?_drew]) <;> first | (with_reducible assumption) | rfl)))
      replace c_t2 : w2.cell? ⟨w.heap.size, 2, none⟩ = some (.slice ca N cc) := (hb2.cell (p := ⟨w.heap.size, 2, none⟩) (by (first | (with_reducible assumption) | omega | (simp only [World.size_alloc, World.size_setCell, World.size_drew, World.heap_drewN] <;> omega) | (simp <;> omega)))).trans (by (first | (with_reducible assumption) | ((try simp (disch := first | omega | (simp only [World.size_alloc, World.size_setCell, World.size_drew, World.heap_drewN] <;> omega) | fail) only [World.cell?_alloc_past, World.cell?_alloc_at, World.frozen?_alloc_past, World.frozen?_alloc_at, World.frozen?_setCell, World.cell?_drew, World.frozen?_drew]) <;> first | (with_reducible assumption) | rfl)))
      replace z_t : w.heap.size < w2.heap.size := by omega
      have hB2 : Below w.heap.size w w2 := by (repeat (first | (with_reducible exact Below.refl _ _) | (with_reducible assumption) | (with_reducible exact Hid.out (by with_reducible assumption)) | (with_reducible refine Below.alloc ?_ ?_ _) | (with_reducible refine Below.setCell ?_ ?_ _) | (with_reducible refine below_drewN ?_ _) | (with_reducible refine Below.drew ?_) | (with_reducible refine below_via (by with_reducible assumption) ?_ ?_) | (first | (with_reducible assumption) | omega | (simp only [World.size_alloc, World.size_setCell, World.size_drew, World.heap_drewN] <;> omega) | (simp <;> omega))))
      obtain ⟨hll, hcell⟩ := HLV.out _ _ _ ho
      have HL := Lib.hid hll
      have HC := Lib.hid hcell
      have HB2 := Lib.hid hB2
      clear ho hb1 hB1 hb2 hB2 hll hcell hNF
      go_wp2
      go_loopg [7, 8] j (fun gk sv iv wr => ∃ (i : Nat), i + gk = j ∧ iv = .int .i64 i ∧ sv = .int .i64 (cntL (lv.take i)) ∧ wr = w2)
      case atStart => exact ⟨0, by omega, rfl, by simp [cntL], rfl⟩
      case round =>
        obtain ⟨i, hi, rfl, rfl, rfl⟩ := hrel
        by_cases hlt : i < j
        · obtain ⟨m, c, hmc⟩ := lv_some HL.out (show i < F by omega)
          obtain ⟨d1, d2⟩ := HC.out i m c hmc
          have ht := cntL_take_succ hmc
          have b1 := HB.out i
          have b2 := HB.out (i + 1)
          rw [ht] at b2
          have HT := Lib.hid ht
          clear ht
          go_wp2
          go_roundg (gk - 1)
          case measure => omega
          case rel => exact ⟨i + 1, by omega, by push_cast; rfl, by rw [HT.out], rfl⟩
        · obtain rfl : i = j := by omega
          go_wp2
          go_ret2
          exact ⟨rfl, HB2.out⟩
  · have e0 : ixMay l ms cs = false := by simpa using hmay
    have et : ahT l ms cs k = (0, 8) := if_neg hmay
    rw [e0] at MY
    rw [et]
    clear e0 et hmay hm hc
    go_enter Try.func14, Try.ntmps14
    go_wp2_with fail
    refine (MY.out _ (by (repeat (first | (with_reducible exact Below.refl _ _) | (with_reducible assumption) | (with_reducible exact Hid.out (by with_reducible assumption)) | (with_reducible refine Below.alloc ?_ ?_ _) | (with_reducible refine Below.setCell ?_ ?_ _) | (with_reducible refine below_drewN ?_ _) | (with_reducible refine Below.drew ?_) | (with_reducible refine below_via (by with_reducible assumption) ?_ ?_) | (first | (with_reducible assumption) | omega | (simp only [World.size_alloc, World.size_setCell, World.size_drew, World.heap_drewN] <;> omega) | (simp <;> omega)))))).mono ?_
    rintro e w1 ⟨rfl, hb1⟩
    go_wp2
    go_ret2
    exact ⟨rfl, by (repeat (first | (with_reducible exact Below.refl _ _) | (with_reducible assumption) | (with_reducible exact Hid.out (by with_reducible assumption)) | (with_reducible refine Below.alloc ?_ ?_ _) | (with_reducible refine Below.setCell ?_ ?_ _) | (with_reducible refine below_drewN ?_ _) | (with_reducible refine Below.drew ?_) | (with_reducible refine below_via (by with_reducible assumption) ?_ ?_) | (first | (with_reducible assumption) | omega | (simp only [World.size_alloc, World.size_setCell, World.size_drew, World.heap_drewN] <;> omega) | (simp <;> omega))))⟩
end Go.Proofs.Ytfmoghjddfjfmaa
