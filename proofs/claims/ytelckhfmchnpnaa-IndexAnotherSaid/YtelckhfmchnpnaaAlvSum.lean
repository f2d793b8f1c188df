/- Merged: Alive, Sums. -/
import Derived.Test.YtelckhfmchnpnaaSlPut
import Derived.Test.YtelckhfmchnpnaaIdxAt
import Derived.Test.YtelckhfmchnpnaaDownPlain
namespace Go.Proofs.Ytelckhfmchnpnaa
set_option linter.unusedVariables false
set_option linter.unusedSimpArgs false
section
open Go.RowKit

set_option maxHeartbeats 1000000 in
theorem tells_ok (l n : Int) (ma ca : Option Addr) (mc cc : Nat) (ms cs : List Int) (key count : Int) (h1 : atM l ms cs n = key) (h2 : atC l ms cs n = count) (h3 : atE l ms cs n = 0) (w : World) (hm : IsRow .i64 w ma ms) (hc : IsRow .i64 w ca cs) :
    Calls Try.prog 33 #[ixV l ma ms.length mc ca cs.length cc, .int .i64 n, .int .i64 key, .int .i64 count] w (AnsB w (.bool true)) := by
  have AT := Lib.hid (fun W (hb : Below w.heap.size w W) => At_ix l n ma ca mc cc ms cs W (hm.below hb) (hc.below hb))
  rw [h1, h2, h3] at AT
  have g1 : (key == key) = true := by simp
  have g2 : (count == count) = true := by simp
  clear h1 h2 h3 hm hc
  go_enter Try.func33, Try.ntmps33
  go_wp2_with fail
  refine (AT.out _ ((Below.refl _ _).alloc (Nat.le_refl _) _)).mono ?_
  rintro e w1 ⟨rfl, hb1⟩
  have hz_w1 := hb1.size
  try simp only [World.size_alloc, World.size_setCell] at hz_w1
  have hB1 : Below w.heap.size w w1 := by (repeat (first | (with_reducible exact Below.refl _ _) | (with_reducible assumption) | (with_reducible exact Hid.out (by with_reducible assumption)) | (with_reducible refine Below.alloc ?_ ?_ _) | (with_reducible refine Below.setCell ?_ ?_ _) | (with_reducible refine below_drewN ?_ _) | (with_reducible refine Below.drew ?_) | (with_reducible refine below_via (by with_reducible assumption) ?_ ?_) | (first | (with_reducible assumption) | omega | (simp only [World.size_alloc, World.size_setCell, World.size_drew, World.heap_drewN] <;> omega) | (simp <;> omega))))
  go_wp2
  go_ret
  exact ⟨rfl, hB1⟩
theorem ch_1 : atM 3 (bldM chC) (bldC chC) 1 = 12 ∧ atC 3 (bldM chC) (bldC chC) 1 = 5 ∧ atE 3 (bldM chC) (bldC chC) 1 = 0 := by rw [chC_eq]; decide +kernel
theorem ch_2 : atM 3 (bldM chC) (bldC chC) 2 = 5 ∧ atC 3 (bldM chC) (bldC chC) 2 = 2 ∧ atE 3 (bldM chC) (bldC chC) 2 = 0 := by rw [chC_eq]; decide +kernel
theorem ch_3 : atM 3 (bldM chC) (bldC chC) 3 = 12 ∧ atC 3 (bldM chC) (bldC chC) 3 = 3 ∧ atE 3 (bldM chC) (bldC chC) 3 = 0 := by rw [chC_eq]; decide +kernel
theorem ch_5 : atM 3 (bldM chC) (bldC chC) 5 = 0 ∧ atC 3 (bldM chC) (bldC chC) 5 = 0 ∧ atE 3 (bldM chC) (bldC chC) 5 = 0 := by rw [chC_eq]; decide +kernel

theorem chC_u : U64s chC.ws := okC_u (by rw [chC_eq]; decide +kernel)
set_option maxRecDepth 100000 in
set_option maxHeartbeats 1000000 in
theorem alive_ok (w : World) : Calls Try.prog 26 #[] w (AnsB w (.bool true)) := by
  have BI := Lib.hid (fun a W h => BuildIx_ok chC a (by rw [chC_eq]; decide) (by rw [chC_eq]; decide) W h)
  rw [chC_lev, chC_bld] at BI
  have T1 := Lib.hid (fun ma ca mc cc W h h' => tells_ok 3 1 ma ca mc cc (bldM chC) (bldC chC) 12 5 ch_1.1 ch_1.2.1 ch_1.2.2 W h h')
  have T2 := Lib.hid (fun ma ca mc cc W h h' => tells_ok 3 2 ma ca mc cc (bldM chC) (bldC chC) 5 2 ch_2.1 ch_2.2.1 ch_2.2.2 W h h')
  have T3 := Lib.hid (fun ma ca mc cc W h h' => tells_ok 3 3 ma ca mc cc (bldM chC) (bldC chC) 12 3 ch_3.1 ch_3.2.1 ch_3.2.2 W h h')
  have T5 := Lib.hid (fun ma ca mc cc W h h' => tells_ok 3 5 ma ca mc cc (bldM chC) (bldC chC) 0 0 ch_5.1 ch_5.2.1 ch_5.2.2 W h h')
  have HU := Lib.hid chC_u
  have CH := Lib.hid chapter_ok
  unfold FreshSl at CH
  generalize bldM chC = bm at *
  generalize bldC chC = bc at *
  generalize chC = c at *
  go_enter Try.func26, Try.ntmps26
  go_wp2_with fail
  refine (CH.out w).mono ?_
  rintro e w1 ⟨v1, v2, v3, v4, rfl, o1, o2, o3, o4, hb1⟩
  obtain ⟨a1, c1, rfl, i1, -, -, -, -⟩ := row_of_owns o1
  obtain ⟨a2, c2, rfl, i2, -, -, -, -⟩ := row_of_owns o2
  obtain ⟨a3, c3, rfl, i3, -, -, -, -⟩ := row_of_owns o3
  obtain ⟨a4, c4, rfl, i4, -, -, -, -⟩ := row_of_owns o4
  have BI1 := Lib.hid (BI.out ⟨a1, a2, a3, a4, c1, c2, c3, c4⟩ w1 ⟨i1, i2, i3, i4, HU.out⟩)
  clear o1 o2 o3 o4 i1 i2 i3 i4
  go_wp2_with fail
  refine BI1.out.mono ?_
  rintro e w2 ⟨v, u, rfl, o1, o2, hb2⟩
  obtain ⟨ma, mc, rfl, i1, -, -, -, -⟩ := row_of_owns o1
  obtain ⟨ca, cc, rfl, i2, -, -, -, -⟩ := row_of_owns o2
  have hz1 := hb1.size
  have hz2 := hb2.size
  have hB2 : Below w.heap.size w w2 := below_via hb2 hb1 (by omega)
  have I1 := Lib.hid (fun W (hb : Below w2.heap.size w2 W) => i1.below hb)
  have I2 := Lib.hid (fun W (hb : Below w2.heap.size w2 W) => i2.below hb)
  clear o1 o2 i1 i2 hb1 hb2
  have hx : Below w2.heap.size w2 (w2.alloc (.cells #[.int .i64 3, .slice ma bm.length mc, .slice ca bc.length cc] 25)) := (Below.refl _ _).alloc (Nat.le_refl _) _
  go_wp2_with fail
  refine (T1.out ma ca mc cc _ (I1.out _ hx) (I2.out _ hx)).mono ?_
  rintro e w3 ⟨rfl, hb3⟩
  have hz_w3 := hb3.size
  try simp only [World.size_alloc, World.size_setCell] at hz_w3
  have c_x0 : w3.cell? ⟨w2.heap.size, 0, none⟩ = some (.int .i64 3) := (hb3.cell (p := ⟨w2.heap.size, 0, none⟩) (by (first | (with_reducible assumption) | omega | (simp only [World.size_alloc, World.size_setCell, World.size_drew, World.heap_drewN] <;> omega) | (simp <;> omega)))).trans (by (first | (with_reducible assumption) | ((try simp (disch := first | omega | (simp only [World.size_alloc, World.size_setCell, World.size_drew, World.heap_drewN] <;> omega) | fail) only [World.cell?_alloc_past, World.cell?_alloc_at, World.frozen?_alloc_past, World.frozen?_alloc_at, World.frozen?_setCell, World.cell?_drew, World.frozen?_drew]) <;> first | (with_reducible assumption) | rfl)))
  have c_x1 : w3.cell? ⟨w2.heap.size, 1, none⟩ = some (.slice ma bm.length mc) := (hb3.cell (p := ⟨w2.heap.size, 1, none⟩) (by (first | (with_reducible assumption) | omega | (simp only [World.size_alloc, World.size_setCell, World.size_drew, World.heap_drewN] <;> omega) | (simp <;> omega)))).trans (by (first | (with_reducible assumption) | ((try simp (disch := first | omega | (simp only [World.size_alloc, World.size_setCell, World.size_drew, World.heap_drewN] <;> omega) | fail) only [World.cell?_alloc_past, World.cell?_alloc_at, World.frozen?_alloc_past, World.frozen?_alloc_at, World.frozen?_setCell, World.cell?_drew, World.frozen?_drew]) <;> first | (with_reducible assumption) | rfl)))
  have c_x2 : w3.cell? ⟨w2.heap.size, 2, none⟩ = some (.slice ca bc.length cc) := (hb3.cell (p := ⟨w2.heap.size, 2, none⟩) (by (first | (with_reducible assumption) | omega | (simp only [World.size_alloc, World.size_setCell, World.size_drew, World.heap_drewN] <;> omega) | (simp <;> omega)))).trans (by (first | (with_reducible assumption) | ((try simp (disch := first | omega | (simp only [World.size_alloc, World.size_setCell, World.size_drew, World.heap_drewN] <;> omega) | fail) only [World.cell?_alloc_past, World.cell?_alloc_at, World.frozen?_alloc_past, World.frozen?_alloc_at, World.frozen?_setCell, World.cell?_drew, World.frozen?_drew]) <;> first | (with_reducible assumption) | rfl)))
  have z_x : w2.heap.size < w3.heap.size := by omega
  have h3 : Below w2.heap.size w2 w3 := below_via hb3 hx (by simp)
  go_wp2_with fail
  refine (T2.out ma ca mc cc _ (I1.out _ h3) (I2.out _ h3)).mono ?_
  rintro e w4 ⟨rfl, hb4⟩
  have hz_w4 := hb4.size
  try simp only [World.size_alloc, World.size_setCell] at hz_w4
  replace c_x0 : w4.cell? ⟨w2.heap.size, 0, none⟩ = some (.int .i64 3) := (hb4.cell (p := ⟨w2.heap.size, 0, none⟩) (by (first | (with_reducible assumption) | omega | (simp only [World.size_alloc, World.size_setCell, World.size_drew, World.heap_drewN] <;> omega) | (simp <;> omega)))).trans (by (first | (with_reducible assumption) | ((try simp (disch := first | omega | (simp only [World.size_alloc, World.size_setCell, World.size_drew, World.heap_drewN] <;> omega) | fail) only [World.cell?_alloc_past, World.cell?_alloc_at, World.frozen?_alloc_past, World.frozen?_alloc_at, World.frozen?_setCell, World.cell?_drew, World.frozen?_drew]) <;> first | (with_reducible assumption) | rfl)))
  replace c_x1 : w4.cell? ⟨w2.heap.size, 1, none⟩ = some (.slice ma bm.length mc) := (hb4.cell (p := ⟨w2.heap.size, 1, none⟩) (by (first | (with_reducible assumption) | omega | (simp only [World.size_alloc, World.size_setCell, World.size_drew, World.heap_drewN] <;> omega) | (simp <;> omega)))).trans (by (first | (with_reducible assumption) | ((try simp (disch := first | omega | (simp only [World.size_alloc, World.size_setCell, World.size_drew, World.heap_drewN] <;> omega) | fail) only [World.cell?_alloc_past, World.cell?_alloc_at, World.frozen?_alloc_past, World.frozen?_alloc_at, World.frozen?_setCell, World.cell?_drew, World.frozen?_drew]) <;> first | (with_reducible assumption) | rfl)))
  replace c_x2 : w4.cell? ⟨w2.heap.size, 2, none⟩ = some (.slice ca bc.length cc) := (hb4.cell (p := ⟨w2.heap.size, 2, none⟩) (by (first | (with_reducible assumption) | omega | (simp only [World.size_alloc, World.size_setCell, World.size_drew, World.heap_drewN] <;> omega) | (simp <;> omega)))).trans (by (first | (with_reducible assumption) | ((try simp (disch := first | omega | (simp only [World.size_alloc, World.size_setCell, World.size_drew, World.heap_drewN] <;> omega) | fail) only [World.cell?_alloc_past, World.cell?_alloc_at, World.frozen?_alloc_past, World.frozen?_alloc_at, World.frozen?_setCell, World.cell?_drew, World.frozen?_drew]) <;> first | (with_reducible assumption) | rfl)))
  replace z_x : w2.heap.size < w4.heap.size := by omega
  have h4 : Below w2.heap.size w2 w4 := below_via hb4 h3 (by omega)
  go_wp2_with fail
  refine (T3.out ma ca mc cc _ (I1.out _ h4) (I2.out _ h4)).mono ?_
  rintro e w5 ⟨rfl, hb5⟩
  have hz_w5 := hb5.size
  try simp only [World.size_alloc, World.size_setCell] at hz_w5
  replace c_x0 : w5.cell? ⟨w2.heap.size, 0, none⟩ = some (.int .i64 3) := (hb5.cell (p := ⟨w2.heap.size, 0, none⟩) (by (first | (with_reducible assumption) | omega | (simp only [World.size_alloc, World.size_setCell, World.size_drew, World.heap_drewN] <;> omega) | (simp <;> omega)))).trans (by (first | (with_reducible assumption) | ((try simp (disch := first | omega | (simp only [World.size_alloc, World.size_setCell, World.size_drew, World.heap_drewN] <;> omega) | fail) only [World.cell?_alloc_past, World.cell?_alloc_at, World.frozen?_alloc_past, World.frozen?_alloc_at, World.frozen?_setCell, World.cell?_drew, World.frozen?_drew]) <;> first | (with_reducible assumption) | rfl)))
  replace c_x1 : w5.cell? ⟨w2.heap.size, 1, none⟩ = some (.slice ma bm.length mc) := (hb5.cell (p := ⟨w2.heap.size, 1, none⟩) (by (first | (with_reducible assumption) | omega | (simp only [World.size_alloc, World.size_setCell, World.size_drew, World.heap_drewN] <;> omega) | (simp <;> omega)))).trans (by (first | (with_reducible assumption) | ((try simp (disch := first | omega | (simp only [World.size_alloc, World.size_setCell, World.size_drew, World.heap_drewN] <;> omega) | fail) only [World.cell?_alloc_past, World.cell?_alloc_at, World.frozen?_alloc_past, World.frozen?_alloc_at, World.frozen?_setCell, World.cell?_drew, World.frozen?_drew]) <;> first | (with_reducible assumption) | rfl)))
  replace c_x2 : w5.cell? ⟨w2.heap.size, 2, none⟩ = some (.slice ca bc.length cc) := (hb5.cell (p := ⟨w2.heap.size, 2, none⟩) (by (first | (with_reducible assumption) | omega | (simp only [World.size_alloc, World.size_setCell, World.size_drew, World.heap_drewN] <;> omega) | (simp <;> omega)))).trans (by (first | (with_reducible assumption) | ((try simp (disch := first | omega | (simp only [World.size_alloc, World.size_setCell, World.size_drew, World.heap_drewN] <;> omega) | fail) only [World.cell?_alloc_past, World.cell?_alloc_at, World.frozen?_alloc_past, World.frozen?_alloc_at, World.frozen?_setCell, World.cell?_drew, World.frozen?_drew]) <;> first | (with_reducible assumption) | rfl)))
  replace z_x : w2.heap.size < w5.heap.size := by omega
  have h5 : Below w2.heap.size w2 w5 := below_via hb5 h4 (by omega)
  go_wp2_with fail
  refine (T5.out ma ca mc cc _ (I1.out _ h5) (I2.out _ h5)).mono ?_
  rintro e w6 ⟨rfl, hb6⟩
  have hz_w6 := hb6.size
  try simp only [World.size_alloc, World.size_setCell] at hz_w6
  replace c_x0 : w6.cell? ⟨w2.heap.size, 0, none⟩ = some (.int .i64 3) := (hb6.cell (p := ⟨w2.heap.size, 0, none⟩) (by (first | (with_reducible assumption) | omega | (simp only [World.size_alloc, World.size_setCell, World.size_drew, World.heap_drewN] <;> omega) | (simp <;> omega)))).trans (by (first | (with_reducible assumption) | ((try simp (disch := first | omega | (simp only [World.size_alloc, World.size_setCell, World.size_drew, World.heap_drewN] <;> omega) | fail) only [World.cell?_alloc_past, World.cell?_alloc_at, World.frozen?_alloc_past, World.frozen?_alloc_at, World.frozen?_setCell, World.cell?_drew, World.frozen?_drew]) <;> first | (with_reducible assumption) | rfl)))
  replace c_x1 : w6.cell? ⟨w2.heap.size, 1, none⟩ = some (.slice ma bm.length mc) := (hb6.cell (p := ⟨w2.heap.size, 1, none⟩) (by (first | (with_reducible assumption) | omega | (simp only [World.size_alloc, World.size_setCell, World.size_drew, World.heap_drewN] <;> omega) | (simp <;> omega)))).trans (by (first | (with_reducible assumption) | ((try simp (disch := first | omega | (simp only [World.size_alloc, World.size_setCell, World.size_drew, World.heap_drewN] <;> omega) | fail) only [World.cell?_alloc_past, World.cell?_alloc_at, World.frozen?_alloc_past, World.frozen?_alloc_at, World.frozen?_setCell, World.cell?_drew, World.frozen?_drew]) <;> first | (with_reducible assumption) | rfl)))
  replace c_x2 : w6.cell? ⟨w2.heap.size, 2, none⟩ = some (.slice ca bc.length cc) := (hb6.cell (p := ⟨w2.heap.size, 2, none⟩) (by (first | (with_reducible assumption) | omega | (simp only [World.size_alloc, World.size_setCell, World.size_drew, World.heap_drewN] <;> omega) | (simp <;> omega)))).trans (by (first | (with_reducible assumption) | ((try simp (disch := first | omega | (simp only [World.size_alloc, World.size_setCell, World.size_drew, World.heap_drewN] <;> omega) | fail) only [World.cell?_alloc_past, World.cell?_alloc_at, World.frozen?_alloc_past, World.frozen?_alloc_at, World.frozen?_setCell, World.cell?_drew, World.frozen?_drew]) <;> first | (with_reducible assumption) | rfl)))
  replace z_x : w2.heap.size < w6.heap.size := by omega
  have h6 : Below w2.heap.size w2 w6 := below_via hb6 h5 (by omega)
  go_wp2
  go_ret
  exact ⟨rfl, below_via h6 hB2 (by omega)⟩
end

section
open Go.RowKit

/-- the key of the last leaf that has any -/
def lastK : List (Int × Int) → Int → Int
  | [], a => a
  | p :: r, a => lastK r (if 0 < p.2 then p.1 else a)
theorem lastK_append : ∀ (a b : List (Int × Int)) (x : Int), lastK (a ++ b) x = lastK b (lastK a x)
  | [], _, _ => rfl
  | p :: r, b, x => by rw [List.cons_append, lastK, lastK]; exact lastK_append r b _
variable {f g : Nat → Int}
theorem Good.last : ∀ {d n}, Good f g d n → ∀ x, lastK (lvs f g d n) x = if 0 < g n then f n else x
  | 0, n, h, x => rfl
  | d + 1, n, h, x => by
    have ho := own_facts h.2.2.1.own
    have ho2 := own_facts h.2.2.2.own
    have hj := join_facts h.2.1
    rw [lvs, lastK_append, Good.last h.2.2.1, Good.last h.2.2.2]
    by_cases hb : 0 < g (2 * n + 1)
    · rw [if_pos hb, if_pos (by omega), hj.2.1 hb]
    · rw [if_neg hb, hj.2.2.1 hb]
      by_cases ha : 0 < g (2 * n)
      · rw [if_pos ha, if_pos (by omega)]
      · rw [if_neg ha, if_neg (by omega)]
end
end Go.Proofs.Ytelckhfmchnpnaa
