/- The walk of the reference's All. -/
import Derived.Test.YtelckhfmchnpnaaIdxRead
import Derived.Test.YtelckhfmchnpnaaVebRef
namespace Go.Proofs.Ytelckhfmchnpnaa
open Go.RowKit
set_option linter.unusedVariables false
set_option linter.unusedSimpArgs false

theorem info_Node : (Try.prog.info? 80).map (fun i => (i.zero, i.size, i.bytes)) = some (some (.agg #[.int .i64 0, .int .i64 0]), 2, 16) := by kernel_rfl
def nrRow (a b : Nat → Int) (M : Nat) : List Value := (flat2 a b M).map (Value.int .i64)
theorem nr_cells {w : World} {B g N : Nat} {a b : Nat → Int} (h : w.ownsRow B 80 2 (.slice (some ⟨g, 0, none⟩) (N + 1) (N + 1)) (N + 1) (nrRow a b (N + 1))) {n : Nat} (hn : n < N + 1) :
    w.cell? ⟨g, n * 2, none⟩ = some (.int .i64 (a n)) ∧ w.cell? ⟨g, n * 2 + 1, none⟩ = some (.int .i64 (b n)) := by
  have hlen : (flat2 a b (N + 1)).length = (N + 1) * 2 := flat2_length
  obtain ⟨d0, -⟩ := own_cell h (j := n * 2) (by omega)
  obtain ⟨d1, -⟩ := own_cell h (j := n * 2 + 1) (by omega)
  rw [flat2_0 hn] at d0
  rw [flat2_1 hn] at d1
  exact ⟨d0, d1⟩

set_option maxRecDepth 100000 in
set_option maxHeartbeats 2000000 in
theorem All_ok (L N : Nat) (l : Int) (hl : l = L) (h1 : 1 ≤ L) (h2 : L ≤ 14) (hN : N + 1 = 2 ^ L) (ma ca : Option Addr) (mc cc : Nat) (ms cs : List Int) (hlm : ms.length = N) (hlc : cs.length = N) (w : World)
    (hm : IsRow .i64 w ma ms) (hc : IsRow .i64 w ca cs) :
    Calls Try.prog 39 #[ixV l ma N mc ca N cc] w fun e w' => ∃ g, e = .returned (.slice (some ⟨g, 0, none⟩) (N + 1) (N + 1)) ∧
      w'.ownsRow (w.heap.size + 1) 80 2 (.slice (some ⟨g, 0, none⟩) (N + 1) (N + 1)) (N + 1) (nrRow (tlF L ms) (tlF L cs) (N + 1)) ∧ Below w.heap.size w w' := by
  have hp : 2 ^ L ≤ 16384 := Nat.pow_le_pow_right (by omega) h2
  have hMb : N + 1 ≤ 16384 := by omega
  have hN1 : 0 < N := by have : 2 ^ 1 ≤ 2 ^ L := Nat.pow_le_pow_right (by omega) h1; omega
  have hPl := Places17_ok L l hl h1 h2
  have hlenP : (plc L).length = N := by rw [plc_length]; omega
  have HPl := Lib.hid hPl
  have HLP := Lib.hid hlenP
  have hpc : ∀ n, 0 ≤ pcF L n ∧ pcF L n < N := fun n => by have := pcF_bd h1 n; omega
  have HP := Lib.hid hpc
  have HM := Lib.hid hm
  have HC := Lib.hid hc
  have HLM := Lib.hid hlm
  have HLC := Lib.hid hlc
  clear hPl hlenP hN hp hpc h1 h2 hl hm hc hlm hlc
  go_enter Try.func39, Try.ntmps39
  go_wp2_with (first
    | (at_make; refine wpl_make (.tmp 9) (.tmp 9) 81 80 _ 2 16 Try.underlying81 info_Node (by decide) (w.heap.size + 1) (N + 1) _ (by push_cast; rfl) (by omega) (by simp) rfl rfl rfl rfl ?_; intro g w2 hg hown hbel; rw [show Value.cells (.agg #[.int .i64 0, .int .i64 0]) = #[.int .i64 0, .int .i64 0] from rfl, made_flat2] at hown
       have hg2 : w.heap.size + 1 ≤ g := by simpa using hg
       have hgl : g < w2.heap.size := (hown.lt g rfl).2
       have c0 : w2.cell? ⟨w.heap.size, 0, none⟩ = some (.int .i64 l) := (hbel.cell (p := ⟨w.heap.size, 0, none⟩) (by simp)).trans (by ((try simp (disch := first | omega | (simp only [World.size_alloc] <;> omega) | fail) only [World.cell?_alloc_past, World.cell?_alloc_at, World.frozen?_alloc_past, World.frozen?_alloc_at]) <;> rfl))
       have c1 : w2.cell? ⟨w.heap.size, 1, none⟩ = some (.slice ma N mc) := (hbel.cell (p := ⟨w.heap.size, 1, none⟩) (by simp)).trans (by ((try simp (disch := first | omega | (simp only [World.size_alloc] <;> omega) | fail) only [World.cell?_alloc_past, World.cell?_alloc_at, World.frozen?_alloc_past, World.frozen?_alloc_at]) <;> rfl))
       have c2 : w2.cell? ⟨w.heap.size, 2, none⟩ = some (.slice ca N cc) := (hbel.cell (p := ⟨w.heap.size, 2, none⟩) (by simp)).trans (by ((try simp (disch := first | omega | (simp only [World.size_alloc] <;> omega) | fail) only [World.cell?_alloc_past, World.cell?_alloc_at, World.frozen?_alloc_past, World.frozen?_alloc_at]) <;> rfl))
       have hb2 : Below w.heap.size w w2 := below_via hbel ((Below.refl _ w).alloc (Nat.le_refl _) _) (by simp)
       have hz2 : w.heap.size < w2.heap.size := by omega
       have H2 := Lib.hid (And.intro hown hb2)
       clear hown hbel hg hb2)
    | (go_at_call 65; refine (HPl.out _).mono ?_; rintro e w3 ⟨v, rfl, ho, hb3⟩
       obtain ⟨pa, pcap, rfl, hi, hbl, -, -, -⟩ := row_of_owns ho
       rw [HLP.out]
       replace c0 : w3.cell? ⟨w.heap.size, 0, none⟩ = some (.int .i64 l) := (hb3.cell (p := ⟨w.heap.size, 0, none⟩) hz2).trans c0
       replace c1 : w3.cell? ⟨w.heap.size, 1, none⟩ = some (.slice ma N mc) := (hb3.cell (p := ⟨w.heap.size, 1, none⟩) hz2).trans c1
       replace c2 : w3.cell? ⟨w.heap.size, 2, none⟩ = some (.slice ca N cc) := (hb3.cell (p := ⟨w.heap.size, 2, none⟩) hz2).trans c2
       have hz3 := hb3.size
       have HO := Lib.hid (owns_below H2.out.1 hb3)
       have HB := Lib.hid (below_via hb3 H2.out.2 (by omega))
       have HI := Lib.hid hi
       have HBL := Lib.hid hbl
       clear ho hi hbl hb3))
  go_loopg [5] N (fun gk i wr => ∃ k : Nat, k + gk = N ∧ i = .int .i64 ((k : Int) + 1) ∧ wr.cell? ⟨w.heap.size, 1, none⟩ = some (.slice ma N mc) ∧ wr.cell? ⟨w.heap.size, 2, none⟩ = some (.slice ca N cc) ∧
      Hid (wr.ownsRow (w.heap.size + 1) 80 2 (.slice (some ⟨g, 0, none⟩) (N + 1) (N + 1)) (N + 1) (nrRow (upTo (tlF L ms) k) (upTo (tlF L cs) k) (N + 1))) ∧ Hid (Below w.heap.size w wr) ∧ Hid (IsRow .i64 wr pa (plc L)))
  case atStart =>
    refine ⟨0, by omega, rfl, c1, c2, Lib.hid ?_, HB, HI⟩
    rw [upTo_zero (tlF_zero L ms), upTo_zero (tlF_zero L cs)]
    exact HO.out
  case round =>
    obtain ⟨k, hk, rfl, c1, c2, HO, HB, HI⟩ := hrel
    by_cases hlt : k < N
    · have hpk := HP.out (k + 1)
      obtain ⟨p, hpp⟩ : ∃ p : Nat, pcF L (k + 1) = p := ⟨(pcF L (k + 1)).toNat, by omega⟩
      have hpN : p < N := by omega
      have hlen : (flat2 (upTo (tlF L ms) k) (upTo (tlF L cs) k) (N + 1)).length = (N + 1) * 2 := flat2_length
      obtain ⟨d2, d3⟩ := own_cell HO.out (j := (k + 1) * 2) (by omega)
      obtain ⟨d4, d5⟩ := own_cell HO.out (j := (k + 1) * 2 + 1) (by omega)
      generalize (flat2 (upTo (tlF L ms) k) (upTo (tlF L cs) k) (N + 1)).getD ((k + 1) * 2) 0 = y0 at d2
      generalize (flat2 (upTo (tlF L ms) k) (upTo (tlF L cs) k) (N + 1)).getD ((k + 1) * 2 + 1) 0 = y1 at d4
      obtain ⟨b0, o0, x0, rfl, hx0, hc0, -⟩ := HI.out.get (i := k) (by rw [HLP.out]; exact hlt)
      have hx0' : x0 = (p : Int) := by rw [← hpp, ← hx0.out, pcF, if_neg (by omega)]; rfl
      subst hx0'
      obtain ⟨b1, o1, x1, rfl, hx1, hc1, -⟩ := (HM.out.below HB.out).get (i := p) (by rw [HLM.out]; exact hpN)
      obtain ⟨b2, o2, x2, rfl, hx2, hc2, -⟩ := (HC.out.below HB.out).get (i := p) (by rw [HLC.out]; exact hpN)
      have hwr : IntKind.i64.wrap (k : Int) = (k : Int) := IntWalk.i64_in _ (by omega)
      have h5 : ((k : Int) + 1).toNat = k + 1 := by omega
      have hgb : b0 ≠ g := by have := HBL.out _ rfl; show b0 ≠ g; have h9 : w2.heap.size ≤ b0 := this.1; omega
      have HPP := Lib.hid hpp
      have HK := Lib.hid hk
      clear hpp hlen hpk c0 hx0
      go_wp2
      go_still_tail 21, (by kernel_rfl)
      go_wp2
      go_roundg (gk - 1)
      case measure => have := HK.out; omega
      case rel =>
        have hgw : w.heap.size ≠ g := by omega
        refine ⟨k + 1, by have := HK.out; omega, by push_cast; rfl, by (first | (with_reducible assumption) | ((simp only [World.frozen?_setCell, World.frozen?_drew, World.frozen?_drewN]) <;> (with_reducible assumption)) | ((repeat (first | (with_reducible assumption) | (with_reducible refine World.cell?_setCell_same _ _ _ (by with_reducible assumption)) | (rw [World.cell?_setCell_other _ _ _ _ (by intro e; simp at e; done)]) | (with_reducible refine cell_setCell_block ?_ ?_) | (rw [World.cell?_drew]) | (rw [World.cell?_drewN]) | (dsimp only; omega))); done) | (first | (with_reducible assumption) | ((try simp (disch := first | omega | (simp only [World.size_alloc, World.size_setCell, World.size_drew, World.heap_drewN] <;> omega) | fail) only [World.cell?_alloc_past, World.cell?_alloc_at, World.frozen?_alloc_past, World.frozen?_alloc_at, World.frozen?_setCell, World.cell?_drew, World.frozen?_drew]) <;> first | (with_reducible assumption) | rfl))), by (first | (with_reducible assumption) | ((simp only [World.frozen?_setCell, World.frozen?_drew, World.frozen?_drewN]) <;> (with_reducible assumption)) | ((repeat (first | (with_reducible assumption) | (with_reducible refine World.cell?_setCell_same _ _ _ (by with_reducible assumption)) | (rw [World.cell?_setCell_other _ _ _ _ (by intro e; simp at e; done)]) | (with_reducible refine cell_setCell_block ?_ ?_) | (rw [World.cell?_drew]) | (rw [World.cell?_drewN]) | (dsimp only; omega))); done) | (first | (with_reducible assumption) | ((try simp (disch := first | omega | (simp only [World.size_alloc, World.size_setCell, World.size_drew, World.heap_drewN] <;> omega) | fail) only [World.cell?_alloc_past, World.cell?_alloc_at, World.frozen?_alloc_past, World.frozen?_alloc_at, World.frozen?_setCell, World.cell?_drew, World.frozen?_drew]) <;> first | (with_reducible assumption) | rfl))), Lib.hid ?_, Lib.hid (((HB.out.setCell (by show w.heap.size ≤ g; omega) _).setCell (by show w.heap.size ≤ g; omega) _).drew), Lib.hid (((HI.out.setCell (fun z hz => by cases hz; exact hgb) _).setCell (fun z hz => by cases hz; exact hgb) _).drewN 1)⟩
        have q1 : tlF L ms (k + 1) = x1 := by rw [tlF, if_neg (by omega), HPP.out]; exact hx1.out
        have q2 : tlF L cs (k + 1) = x2 := by rw [tlF, if_neg (by omega), HPP.out]; exact hx2.out
        have o1 := own_set HO.out ((k + 1) * 2) x1
        rw [flat2_set0 (by omega), putF_upTo _ _ _ q1.symm] at o1
        have o2 := own_set o1 ((k + 1) * 2 + 1) x2
        rw [flat2_set1 (by omega), putF_upTo _ _ _ q2.symm] at o2
        exact o2
    · have hkN : k = N := by omega
      go_wp2
      go_ret
      refine ⟨g, rfl, ?_, HB.out⟩
      have := HO.out
      have e : nrRow (upTo (tlF L ms) k) (upTo (tlF L cs) k) (N + 1) = nrRow (tlF L ms) (tlF L cs) (N + 1) := by
        unfold nrRow
        rw [flat2_congr (a' := tlF L ms) (b' := tlF L cs) (fun i hi => by unfold upTo; rw [if_pos (by omega)]) (fun i hi => by unfold upTo; rw [if_pos (by omega)])]
      rw [← e]
      exact this
end Go.Proofs.Ytelckhfmchnpnaa
