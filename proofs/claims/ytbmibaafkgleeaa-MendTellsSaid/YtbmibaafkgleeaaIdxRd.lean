/- Merged: IdxNodes, IdxRead, IdxAll. -/
import Derived.Test.YtbmibaafkgleeaaIdxPlain
import Derived.Test.YtbmibaafkgleeaaVebRT
import Derived.Test.YtbmibaafkgleeaaIdxFns
namespace Go.Proofs.Ytbmibaafkgleeaa
set_option linter.unusedVariables false
set_option linter.unusedSimpArgs false
section
open Go.RowKit

theorem info_node : (Try.prog.info? 95).map (fun i => (i.zero, i.size, i.bytes)) = some (some (.agg #[.int .i64 0, .int .i64 0, .int .i64 0]), 3, 24) := by kernel_rfl
/-- the nodes' row: what they tell, and their places -/
def ndRow (a b c : Nat → Int) (M : Nat) : List Value := (flat3 a b c M).map (Value.int .i64)

set_option maxRecDepth 100000 in
theorem ndput_ok (L k g cap b1 b2 M B : Nat) (ao : Option Addr) (ac : Nat) (h2 : k + 1 < M) (hM : M = 2 ^ L) (W : World)
    (hp : IsRow .i64 W ao (plc L)) (c1 : W.cell? ⟨b1, 0, none⟩ = some (.slice ao (plc L).length ac)) (c2 : W.cell? ⟨b2, 0, none⟩ = some (.slice (some ⟨g, 0, none⟩) M cap))
    (ho : W.ownsRow B 95 3 (.slice (some ⟨g, 0, none⟩) M cap) M (ndRow (fun _ => 0) (fun _ => 0) (upTo (pcF L) k) M)) (hb : M ≤ 16384) :
    Calls Try.prog 90 #[.int .i64 ((k : Int) + 1), .pointer (some ⟨b1, 0, none⟩), .pointer (some ⟨b2, 0, none⟩)] W fun e W' => e = .returned (.tuple #[]) ∧ W' = W.drew.setCell ⟨g, (k + 1) * 3 + 2, none⟩ (.int .i64 (pcF L (k + 1))) := by
  have hlen := plc_length L
  obtain ⟨b, off, x, rfl, hx, hcx, hlt⟩ := hp.get (i := k) (by omega)
  have hxx : pcF L (k + 1) = x := by rw [pcF, if_neg (by omega)]; exact hx.out
  have hf3 : (flat3 (fun _ => 0) (fun _ => 0) (upTo (pcF L) k) M).length = M * 3 := flat3_length
  obtain ⟨k1, k2⟩ := own_cell ho (j := (k + 1) * 3 + 2) (by omega)
  rw [hxx]
  have hwr : IntKind.i64.wrap (k : Int) = (k : Int) := IntWalk.i64_in _ (by omega)
  have h5 : ((k : Int) + 1).toNat = k + 1 := by omega
  have h3 : k < (plc L).length := by omega
  generalize hN : (plc L).length = N at hp hlen c1 h3
  generalize ((flat3 (fun x => 0) (fun x => 0) (upTo (pcF L) k) M).getD ((k + 1) * 3 + 2) 0) = z at k1
  clear ho hp hf3 hx hlen hxx hM
  go_enter Try.func90, Try.ntmps90
  go_still_tail 7, (by kernel_rfl)
  go_wp2
  all_goals exact bodyPost_end (results_none rfl _ _ _) rfl ⟨rfl, rfl⟩

set_option maxHeartbeats 1000000 in
theorem nodes_ok (L : Nat) (l : Int) (hl : l = L) (h1 : 1 ≤ L) (h2 : L ≤ 14) (w : World) :
    Calls Try.prog 52 #[.int .i64 l] w fun e w' => ∃ g, e = .returned (.slice (some ⟨g, 0, none⟩) (2 ^ L) (2 ^ L)) ∧
      w'.ownsRow w.heap.size 95 3 (.slice (some ⟨g, 0, none⟩) (2 ^ L) (2 ^ L)) (2 ^ L) (ndRow (fun _ => 0) (fun _ => 0) (pcF L) (2 ^ L)) ∧ Below w.heap.size w w' := by
  have hp : 1 ≤ 2 ^ L ∧ 2 ^ L ≤ 16384 := ⟨Nat.two_pow_pos L, Nat.pow_le_pow_right (by omega) h2⟩
  have hlen := plc_length L
  obtain ⟨N, hN⟩ : ∃ N, (plc L).length = N := ⟨_, rfl⟩
  have hM : N + 1 = 2 ^ L := by omega
  have hMb : N + 1 ≤ 16384 := by omega
  rw [← hM]
  have HM := Lib.hid hM
  have HN := Lib.hid hN
  have hT := Lib.hid (Table_ok L l hl h1 h2 w)
  clear hM hp hlen h1 h2 hl hN
  have hmf : ∀ (fn : Fn) (first cap : Array Value) (w : World), (Instr.makeFunc fn first cap).run Try.prog w = .ok (.func fn first cap) w := fun _ _ _ _ => rfl
  go_enter Try.func52, Try.ntmps52
  go_wp2_with fail
  refine hT.out.mono ?_
  rintro e w1 ⟨v, rfl, ho, hb⟩
  obtain ⟨ao, ac, rfl, hi, hbl, -, -, -⟩ := row_of_owns ho
  rw [HN.out]
  have HI := Lib.hid hi
  have HBL := Lib.hid hbl
  have hs1 := hb.size
  clear ho hi hbl
  go_wp2_with (first
    | (at_make; refine wpl_make (.tmp 15) (.tmp 15) 89 95 _ 3 24 Try.underlying89 info_node (by decide) w.heap.size (N + 1) _ (by omega) (by omega) (by simp; omega) rfl rfl rfl rfl ?_; intro g w2 hg hown hbel; rw [show Value.cells (.agg #[.int .i64 0, .int .i64 0, .int .i64 0]) = #[.int .i64 0, .int .i64 0, .int .i64 0] from rfl, made_flat3] at hown
       have hg2 : w1.heap.size + 1 ≤ g := by simpa using hg
       have hz2 : w1.heap.size + 1 ≤ w2.heap.size := by have := hbel.size; simp at this; omega
       have hz3 : w1.heap.size < w2.heap.size := by omega
       have hgl : g < w2.heap.size := (hown.lt g rfl).2
       have c1 : w2.cell? ⟨w1.heap.size, 0, none⟩ = some (.slice ao N ac) := (hbel.cell (p := ⟨w1.heap.size, 0, none⟩) (by simp)).trans (by ((try simp (disch := first | omega | (simp only [szW] <;> omega) | fail) only [ceW]) <;> rfl))
       have hb2 : Below w.heap.size w w2 := below_via hbel (hb.alloc hs1 _) (by simp; omega)
       have hi2 : IsRow .i64 w2 ao (plc L) := HI.out.below (below_via hbel ((Below.refl _ _).alloc (Nat.le_refl _) _) (by simp))
       have H2 := Lib.hid (And.intro hown (And.intro hb2 hi2))
       clear hown hbel hg hb2 hi2))
  go_loopg [20] N (fun gk i wr => ∃ k : Nat, k + gk = N ∧ i = .int .i64 k ∧ wr.cell? ⟨w1.heap.size, 0, none⟩ = some (.slice ao N ac) ∧ wr.cell? ⟨w2.heap.size, 0, none⟩ = some (.slice (some ⟨g, 0, none⟩) (N + 1) (N + 1)) ∧
      Hid (wr.ownsRow w.heap.size 95 3 (.slice (some ⟨g, 0, none⟩) (N + 1) (N + 1)) (N + 1) (ndRow (fun _ => 0) (fun _ => 0) (upTo (pcF L) k) (N + 1))) ∧ Hid (Below w.heap.size w wr) ∧ Hid (IsRow .i64 wr ao (plc L)) ∧ w2.heap.size < wr.heap.size)
  case atStart =>
    obtain ⟨hown, hb2, hi2⟩ := H2.out
    refine ⟨0, by omega, rfl, by (first | (with_reducible assumption) | ((try simp (disch := first | omega | (simp only [szW] <;> omega) | fail) only [ceW]) <;> first | (with_reducible assumption) | rfl)), by (first | (with_reducible assumption) | ((try simp (disch := first | omega | (simp only [szW] <;> omega) | fail) only [ceW]) <;> first | (with_reducible assumption) | rfl)), Lib.hid ?_, Lib.hid (hb2.alloc (by omega) _), Lib.hid (hi2.alloc _), by simp⟩
    rw [upTo_zero (pcF_zero L)]
    exact owns_below hown ((Below.refl _ _).alloc (Nat.le_refl _) _)
  case round =>
    obtain ⟨k, hk, rfl, c1, c2, HO, HB, HI2, hz⟩ := hrel
    by_cases hlt : k < N
    · have hc := ndput_ok L k g (N + 1) w1.heap.size w2.heap.size (N + 1) w.heap.size ao ac (by omega) HM.out wr HI2.out (by rw [HN.out]; exact c1) c2 HO.out hMb
      have HC := Lib.hid hc
      clear hc
      go_wp2_with fail
      refine HC.out.mono ?_
      rintro e w3 ⟨rfl, rfl⟩
      go_wp2
      go_roundg (gk - 1)
      case measure => omega
      case rel =>
        refine ⟨k + 1, by omega, by go_num, by (first | (with_reducible assumption) | ((simp only [World.frozen?_setCell, World.frozen?_drew, World.frozen?_drewN]) <;> (with_reducible assumption)) | ((repeat (first | (with_reducible assumption) | (with_reducible refine World.cell?_setCell_same _ _ _ (by with_reducible assumption)) | (rw [World.cell?_setCell_other _ _ _ _ (by intro e; simp at e; done)]) | (with_reducible refine cell_setCell_block ?_ ?_) | (rw [World.cell?_drew]) | (rw [World.cell?_drewN]) | (dsimp only; omega))); done) | (first | (with_reducible assumption) | ((try simp (disch := first | omega | (simp only [szW] <;> omega) | fail) only [ceW]) <;> first | (with_reducible assumption) | rfl))), by (first | (with_reducible assumption) | ((simp only [World.frozen?_setCell, World.frozen?_drew, World.frozen?_drewN]) <;> (with_reducible assumption)) | ((repeat (first | (with_reducible assumption) | (with_reducible refine World.cell?_setCell_same _ _ _ (by with_reducible assumption)) | (rw [World.cell?_setCell_other _ _ _ _ (by intro e; simp at e; done)]) | (with_reducible refine cell_setCell_block ?_ ?_) | (rw [World.cell?_drew]) | (rw [World.cell?_drewN]) | (dsimp only; omega))); done) | (first | (with_reducible assumption) | ((try simp (disch := first | omega | (simp only [szW] <;> omega) | fail) only [ceW]) <;> first | (with_reducible assumption) | rfl))), Lib.hid ?_, Lib.hid ((HB.out.setCell (by show w.heap.size ≤ g; omega) _).drew), Lib.hid ((HI2.out.setCell (fun z hz => by have := HBL.out z hz; show z.block ≠ g; omega) _).drewN 1), by simpa using hz⟩
        have := own_set HO.out ((k + 1) * 3 + 2) (pcF L (k + 1))
        rw [flat3_set2 (by omega), putF_upTo _ _ _ rfl] at this
        exact this
    · have hkN : k = N := by omega
      go_wp2
      go_ret
      refine ⟨g, rfl, ?_, HB.out⟩
      have := HO.out
      have e : ndRow (fun _ => 0) (fun _ => 0) (upTo (pcF L) k) (N + 1) = ndRow (fun _ => 0) (fun _ => 0) (pcF L) (N + 1) := by
        unfold ndRow
        rw [flat3_congr (c' := pcF L) (fun _ _ => rfl) (fun _ _ => rfl) (fun i hi => by unfold upTo; rw [if_pos (by omega)])]
      rw [← e]
      exact this
end

section
open Go.RowKit

set_option maxRecDepth 100000 in
set_option maxHeartbeats 2000000 in
theorem read_ok (L N : Nat) (l : Int) (hl : l = L) (h1 : 1 ≤ L) (h2 : L ≤ 14) (hN : N + 1 = 2 ^ L) (ma ca : Option Addr) (mc cc : Nat) (ms cs : List Int) (hlm : ms.length = N) (hlc : cs.length = N) (w : World)
    (hm : IsRow .i64 w ma ms) (hc : IsRow .i64 w ca cs) :
    Calls Try.prog 72 #[ixV l ma N mc ca N cc] w fun e w' => ∃ g, e = .returned (.tuple #[.slice (some ⟨g, 0, none⟩) (N + 1) (N + 1), .bool true]) ∧
      w'.ownsRow (w.heap.size + 1) 95 3 (.slice (some ⟨g, 0, none⟩) (N + 1) (N + 1)) (N + 1) (ndRow (tlF L ms) (tlF L cs) (pcF L) (N + 1)) ∧ Below w.heap.size w w' := by
  have hp : 2 ^ L ≤ 16384 := Nat.pow_le_pow_right (by omega) h2
  have hMb : N + 1 ≤ 16384 := by omega
  have hN1 : 0 < N := by have : 2 ^ 1 ≤ 2 ^ L := Nat.pow_le_pow_right (by omega) h1; omega
  have hS := Size_ok l (by omega) (by omega)
  have e1 : (2 : Int) ^ l.toNat - 1 = (N : Int) := by
    have : (2 : Int) ^ l.toNat = ((2 ^ L : Nat) : Int) := by rw [show l.toNat = L by omega]; push_cast; rfl
    rw [this]; omega
  rw [e1] at hS
  have HS := Lib.hid hS
  have hNd := nodes_ok L l hl h1 h2
  rw [← hN] at hNd
  have HN := Lib.hid hNd
  have hpc : ∀ n, 0 ≤ pcF L n ∧ pcF L n < N := fun n => by have := pcF_bd h1 n; omega
  have HP := Lib.hid hpc
  have HM := Lib.hid hm
  have HC := Lib.hid hc
  have HLM := Lib.hid hlm
  have HLC := Lib.hid hlc
  clear hS e1 hNd hN hp hpc h1 h2 hl hm hc hlm hlc
  go_enter Try.func72, Try.ntmps72
  go_wp2_with (first
    | (go_at_call 104; refine (HS.out _).mono ?_; rintro e w' ⟨rfl, rfl⟩)
    | (go_at_call 52; refine (HN.out _).mono ?_; rintro e w1 ⟨g, rfl, ho, hb⟩
       have hg := (ho.lt g rfl)
       simp only [World.size_alloc] at hg hb ho
       have hz1 : w.heap.size + 1 ≤ w1.heap.size := by have := hb.size; simp at this; omega
       have c0 : w1.cell? ⟨w.heap.size, 0, none⟩ = some (.int .i64 l) := (hb.cell (p := ⟨w.heap.size, 0, none⟩) (by simp)).trans (by ((try simp (disch := first | omega | (simp only [szW] <;> omega) | fail) only [ceW]) <;> rfl))
       have c1 : w1.cell? ⟨w.heap.size, 1, none⟩ = some (.slice ma N mc) := (hb.cell (p := ⟨w.heap.size, 1, none⟩) (by simp)).trans (by ((try simp (disch := first | omega | (simp only [szW] <;> omega) | fail) only [ceW]) <;> rfl))
       have c2 : w1.cell? ⟨w.heap.size, 2, none⟩ = some (.slice ca N cc) := (hb.cell (p := ⟨w.heap.size, 2, none⟩) (by simp)).trans (by ((try simp (disch := first | omega | (simp only [szW] <;> omega) | fail) only [ceW]) <;> rfl))
       have HO := Lib.hid ho
       have HB := Lib.hid (below_via hb ((Below.refl _ w).alloc (Nat.le_refl _) _) (by omega))
       clear ho hb))
  go_loopg [37] N (fun gk i wr => ∃ k : Nat, k + gk = N ∧ i = .int .i64 k ∧ wr.cell? ⟨w.heap.size, 1, none⟩ = some (.slice ma N mc) ∧ wr.cell? ⟨w.heap.size, 2, none⟩ = some (.slice ca N cc) ∧
      Hid (wr.ownsRow (w.heap.size + 1) 95 3 (.slice (some ⟨g, 0, none⟩) (N + 1) (N + 1)) (N + 1) (ndRow (upTo (tlF L ms) k) (upTo (tlF L cs) k) (pcF L) (N + 1))) ∧ Hid (Below w.heap.size w wr))
  case atStart =>
    refine ⟨0, by omega, rfl, c1, c2, Lib.hid ?_, HB⟩
    rw [upTo_zero (tlF_zero L ms), upTo_zero (tlF_zero L cs)]
    exact HO.out
  case round =>
    obtain ⟨k, hk, rfl, c1, c2, HO, HB⟩ := hrel
    by_cases hlt : k < N
    · have hpk := HP.out (k + 1)
      obtain ⟨p, hpp⟩ : ∃ p : Nat, pcF L (k + 1) = p := ⟨(pcF L (k + 1)).toNat, by omega⟩
      have hpN : p < N := by omega
      have hlen : (flat3 (upTo (tlF L ms) k) (upTo (tlF L cs) k) (pcF L) (N + 1)).length = (N + 1) * 3 := flat3_length
      obtain ⟨d0, d1⟩ := own_cell HO.out (j := (k + 1) * 3 + 2) (by omega)
      rw [flat3_2 (by omega), hpp] at d0
      obtain ⟨d2, d3⟩ := own_cell HO.out (j := (k + 1) * 3) (by omega)
      obtain ⟨d4, d5⟩ := own_cell HO.out (j := (k + 1) * 3 + 1) (by omega)
      generalize (flat3 (upTo (tlF L ms) k) (upTo (tlF L cs) k) (pcF L) (N + 1)).getD ((k + 1) * 3) 0 = y0 at d2
      generalize (flat3 (upTo (tlF L ms) k) (upTo (tlF L cs) k) (pcF L) (N + 1)).getD ((k + 1) * 3 + 1) 0 = y1 at d4
      obtain ⟨b1, o1, x1, rfl, hx1, hc1, -⟩ := (HM.out.below HB.out).get (i := p) (by rw [HLM.out]; exact hpN)
      obtain ⟨b2, o2, x2, rfl, hx2, hc2, -⟩ := (HC.out.below HB.out).get (i := p) (by rw [HLC.out]; exact hpN)
      have hwr : IntKind.i64.wrap ((k : Int) + 1) = (k : Int) + 1 := IntWalk.i64_in _ (by omega)
      have h5 : ((k : Int) + 1).toNat = k + 1 := by omega
      have HPP := Lib.hid hpp
      have HK := Lib.hid hk
      clear hpp hlen hpk c0
      go_wp2
      go_still_tail 14, (by kernel_rfl)
      go_wp2
      go_roundg (gk - 1)
      case measure => have := HK.out; omega
      case rel =>
        have hgw : w.heap.size ≠ g := by omega
        refine ⟨k + 1, by have := HK.out; omega, by go_num, by (first | (with_reducible assumption) | ((simp only [World.frozen?_setCell, World.frozen?_drew, World.frozen?_drewN]) <;> (with_reducible assumption)) | ((repeat (first | (with_reducible assumption) | (with_reducible refine World.cell?_setCell_same _ _ _ (by with_reducible assumption)) | (rw [World.cell?_setCell_other _ _ _ _ (by intro e; simp at e; done)]) | (with_reducible refine cell_setCell_block ?_ ?_) | (rw [World.cell?_drew]) | (rw [World.cell?_drewN]) | (dsimp only; omega))); done) | (first | (with_reducible assumption) | ((try simp (disch := first | omega | (simp only [szW] <;> omega) | fail) only [ceW]) <;> first | (with_reducible assumption) | rfl))), by (first | (with_reducible assumption) | ((simp only [World.frozen?_setCell, World.frozen?_drew, World.frozen?_drewN]) <;> (with_reducible assumption)) | ((repeat (first | (with_reducible assumption) | (with_reducible refine World.cell?_setCell_same _ _ _ (by with_reducible assumption)) | (rw [World.cell?_setCell_other _ _ _ _ (by intro e; simp at e; done)]) | (with_reducible refine cell_setCell_block ?_ ?_) | (rw [World.cell?_drew]) | (rw [World.cell?_drewN]) | (dsimp only; omega))); done) | (first | (with_reducible assumption) | ((try simp (disch := first | omega | (simp only [szW] <;> omega) | fail) only [ceW]) <;> first | (with_reducible assumption) | rfl))), Lib.hid ?_, Lib.hid (((HB.out.setCell (by show w.heap.size ≤ g; omega) _).setCell (by show w.heap.size ≤ g; omega) _).drew)⟩
        have q1 : tlF L ms (k + 1) = x1 := by rw [tlF, if_neg (by omega), HPP.out]; exact hx1.out
        have q2 : tlF L cs (k + 1) = x2 := by rw [tlF, if_neg (by omega), HPP.out]; exact hx2.out
        have o1 := own_set HO.out ((k + 1) * 3) x1
        rw [flat3_set0 (by omega), putF_upTo _ _ _ q1.symm] at o1
        have o2 := own_set o1 ((k + 1) * 3 + 1) x2
        rw [flat3_set1 (by omega), putF_upTo _ _ _ q2.symm] at o2
        exact o2
    · have hkN : k = N := by omega
      go_wp2
      go_ret2
      refine ⟨g, rfl, ?_, HB.out⟩
      have := HO.out
      have e : ndRow (upTo (tlF L ms) k) (upTo (tlF L cs) k) (pcF L) (N + 1) = ndRow (tlF L ms) (tlF L cs) (pcF L) (N + 1) := by
        unfold ndRow
        rw [flat3_congr (a' := tlF L ms) (b' := tlF L cs) (c' := pcF L) (fun i hi => by unfold upTo; rw [if_pos (by omega)]) (fun i hi => by unfold upTo; rw [if_pos (by omega)]) (fun _ _ => rfl)]
      rw [← e]
      exact this
set_option maxHeartbeats 1000000 in
theorem read_bad (l : Int) (ma ca : Option Addr) (mc cc : Nat) (ms cs : List Int) (h : ¬ ixFit l ms cs) (w : World) :
    Calls Try.prog 72 #[ixV l ma ms.length mc ca cs.length cc] w (Ans w (.tuple #[.slice none 0 0, .bool false])) := by
  by_cases hl : 1 ≤ l ∧ l ≤ 14
  · obtain ⟨h1, h2⟩ := hl
    obtain ⟨N, hN⟩ : ∃ N : Nat, 2 ^ l.toNat - 1 = N := ⟨_, rfl⟩
    have hpos := Nat.two_pow_pos l.toNat
    have e1 : (2 : Int) ^ l.toNat - 1 = (N : Int) := by
      have : (2 : Int) ^ l.toNat = ((2 ^ l.toNat : Nat) : Int) := by push_cast; rfl
      rw [this]; omega
    have hS := Size_ok l h1 h2
    rw [e1] at hS
    have HS := Lib.hid hS
    have hd : ms.length ≠ N ∨ cs.length ≠ N := by
      by_cases h3 : ms.length = N
      · by_cases h4 : cs.length = N
        · exact absurd ⟨h1, h2, by omega, by omega⟩ h
        · exact .inr h4
      · exact .inl h3
    clear e1 hS h
    generalize ms.length = m at *
    generalize cs.length = c at *
    by_cases h3 : m = N
    · have h4 : c ≠ N := by omega
      have e3 : ((m : Int) != (N : Int)) = false := by simp [h3]
      have e4 : ((c : Int) != (N : Int)) = true := by simp; omega
      clear h3 h4 hd hN hpos
      go_enter Try.func72, Try.ntmps72
      go_wp2_with (go_at_call 104; refine (HS.out _).mono ?_; rintro e w' ⟨rfl, rfl⟩)
      go_ret2
      exact ⟨rfl, by (repeat (first | with_reducible (first | exact Below.refl _ _ | assumption | exact Hid.out (by assumption) | refine Below.alloc ?_ ?_ _ | refine Below.setCell ?_ ?_ _ | refine below_drewN ?_ _ | refine Below.drew ?_ | refine below_via (by assumption) ?_ ?_) | (first | (with_reducible assumption) | omega | (simp only [szW] <;> omega) | (simp <;> omega))))⟩
    · have e3 : ((m : Int) != (N : Int)) = true := by simp; omega
      clear h3 hd hN hpos
      go_enter Try.func72, Try.ntmps72
      go_wp2_with (go_at_call 104; refine (HS.out _).mono ?_; rintro e w' ⟨rfl, rfl⟩)
      go_ret2
      exact ⟨rfl, by (repeat (first | with_reducible (first | exact Below.refl _ _ | assumption | exact Hid.out (by assumption) | refine Below.alloc ?_ ?_ _ | refine Below.setCell ?_ ?_ _ | refine below_drewN ?_ _ | refine Below.drew ?_ | refine below_via (by assumption) ?_ ?_) | (first | (with_reducible assumption) | omega | (simp only [szW] <;> omega) | (simp <;> omega))))⟩
  · have hS := Size_err l (by omega)
    have HS := Lib.hid hS
    clear hS h hl
    go_enter Try.func72, Try.ntmps72
    go_wp2_with (go_at_call 104; refine (HS.out _).mono ?_; rintro e w' ⟨rfl, rfl⟩)
    go_ret2
    exact ⟨rfl, by (repeat (first | with_reducible (first | exact Below.refl _ _ | assumption | exact Hid.out (by assumption) | refine Below.alloc ?_ ?_ _ | refine Below.setCell ?_ ?_ _ | refine below_drewN ?_ _ | refine Below.drew ?_ | refine below_via (by assumption) ?_ ?_) | (first | (with_reducible assumption) | omega | (simp only [szW] <;> omega) | (simp <;> omega))))⟩
end

section
open Go.RowKit

theorem info_Node : (Try.prog.info? 125).map (fun i => (i.zero, i.size, i.bytes)) = some (some (.agg #[.int .i64 0, .int .i64 0]), 2, 16) := by kernel_rfl
def nrRow (a b : Nat → Int) (M : Nat) : List Value := (flat2 a b M).map (Value.int .i64)
theorem nr_cells {w : World} {B g N : Nat} {a b : Nat → Int} (h : w.ownsRow B 125 2 (.slice (some ⟨g, 0, none⟩) (N + 1) (N + 1)) (N + 1) (nrRow a b (N + 1))) {n : Nat} (hn : n < N + 1) :
    w.cell? ⟨g, n * 2, none⟩ = some (.int .i64 (a n)) ∧ w.cell? ⟨g, n * 2 + 1, none⟩ = some (.int .i64 (b n)) := by
  have hlen : (flat2 a b (N + 1)).length = (N + 1) * 2 := flat2_length
  obtain ⟨d0, -⟩ := own_cell h (j := n * 2) (by omega)
  obtain ⟨d1, -⟩ := own_cell h (j := n * 2 + 1) (by omega)
  rw [flat2_0 hn] at d0
  rw [flat2_1 hn] at d1
  exact ⟨d0, d1⟩

set_option maxRecDepth 100000 in
set_option maxHeartbeats 2000000 in
theorem All_ok (L N : Nat) (l : Int) (hl : l = L) (h1 : 1 ≤ L) (h2 : L ≤ 14) (hN : N + 1 = 2 ^ L) (ma ca : Option Addr) (mc cc : Nat) (ms cs : List Int) (hlm : ms.length = N) (hlc : cs.length = N) (w : World)
    (hm : IsRow .i64 w ma ms) (hc : IsRow .i64 w ca cs) :
    Calls Try.prog 82 #[ixV l ma N mc ca N cc] w fun e w' => ∃ g, e = .returned (.slice (some ⟨g, 0, none⟩) (N + 1) (N + 1)) ∧
      w'.ownsRow (w.heap.size + 1) 125 2 (.slice (some ⟨g, 0, none⟩) (N + 1) (N + 1)) (N + 1) (nrRow (tlF L ms) (tlF L cs) (N + 1)) ∧ Below w.heap.size w w' := by
  have hp : 2 ^ L ≤ 16384 := Nat.pow_le_pow_right (by omega) h2
  have hMb : N + 1 ≤ 16384 := by omega
  have hN1 : 0 < N := by have : 2 ^ 1 ≤ 2 ^ L := Nat.pow_le_pow_right (by omega) h1; omega
  have hPl := Places17_ok L l hl h1 h2
  have hlenP : (plc L).length = N := by rw [plc_length]; omega
  have HPl := Lib.hid hPl
  have HLP := Lib.hid hlenP
  have hpc : ∀ n, 0 ≤ pcF L n ∧ pcF L n < N := fun n => by have := pcF_bd h1 n; omega
  have HP := Lib.hid hpc
  have HM := Lib.hid hm
  have HC := Lib.hid hc
  have HLM := Lib.hid hlm
  have HLC := Lib.hid hlc
  clear hPl hlenP hN hp hpc h1 h2 hl hm hc hlm hlc
  go_enter Try.func82, Try.ntmps82
  go_wp2_with (first
    | (at_make; refine wpl_make (.tmp 9) (.tmp 9) 122 125 _ 2 16 Try.underlying122 info_Node (by decide) (w.heap.size + 1) (N + 1) _ (by push_cast; rfl) (by omega) (by simp) rfl rfl rfl rfl ?_; intro g w2 hg hown hbel; rw [show Value.cells (.agg #[.int .i64 0, .int .i64 0]) = #[.int .i64 0, .int .i64 0] from rfl, made_flat2] at hown
       have hg2 : w.heap.size + 1 ≤ g := by simpa using hg
       have hgl : g < w2.heap.size := (hown.lt g rfl).2
       have c0 : w2.cell? ⟨w.heap.size, 0, none⟩ = some (.int .i64 l) := (hbel.cell (p := ⟨w.heap.size, 0, none⟩) (by simp)).trans (by ((try simp (disch := first | omega | (simp only [szW] <;> omega) | fail) only [ceW]) <;> rfl))
       have c1 : w2.cell? ⟨w.heap.size, 1, none⟩ = some (.slice ma N mc) := (hbel.cell (p := ⟨w.heap.size, 1, none⟩) (by simp)).trans (by ((try simp (disch := first | omega | (simp only [szW] <;> omega) | fail) only [ceW]) <;> rfl))
       have c2 : w2.cell? ⟨w.heap.size, 2, none⟩ = some (.slice ca N cc) := (hbel.cell (p := ⟨w.heap.size, 2, none⟩) (by simp)).trans (by ((try simp (disch := first | omega | (simp only [szW] <;> omega) | fail) only [ceW]) <;> rfl))
       have hb2 : Below w.heap.size w w2 := below_via hbel ((Below.refl _ w).alloc (Nat.le_refl _) _) (by simp)
       have hz2 : w.heap.size < w2.heap.size := by omega
       have H2 := Lib.hid (And.intro hown hb2)
       clear hown hbel hg hb2)
    | (go_at_call 86; refine (HPl.out _).mono ?_; rintro e w3 ⟨v, rfl, ho, hb3⟩
       obtain ⟨pa, pcap, rfl, hi, hbl, -, -, -⟩ := row_of_owns ho
       rw [HLP.out]
       replace c0 : w3.cell? ⟨w.heap.size, 0, none⟩ = some (.int .i64 l) := (hb3.cell (p := ⟨w.heap.size, 0, none⟩) hz2).trans c0
       replace c1 : w3.cell? ⟨w.heap.size, 1, none⟩ = some (.slice ma N mc) := (hb3.cell (p := ⟨w.heap.size, 1, none⟩) hz2).trans c1
       replace c2 : w3.cell? ⟨w.heap.size, 2, none⟩ = some (.slice ca N cc) := (hb3.cell (p := ⟨w.heap.size, 2, none⟩) hz2).trans c2
       have hz3 := hb3.size
       have HO := Lib.hid (owns_below H2.out.1 hb3)
       have HB := Lib.hid (below_via hb3 H2.out.2 (by omega))
       have HI := Lib.hid hi
       have HBL := Lib.hid hbl
       clear ho hi hbl hb3))
  go_loopg [5] N (fun gk i wr => ∃ k : Nat, k + gk = N ∧ i = .int .i64 ((k : Int) + 1) ∧ wr.cell? ⟨w.heap.size, 1, none⟩ = some (.slice ma N mc) ∧ wr.cell? ⟨w.heap.size, 2, none⟩ = some (.slice ca N cc) ∧
      Hid (wr.ownsRow (w.heap.size + 1) 125 2 (.slice (some ⟨g, 0, none⟩) (N + 1) (N + 1)) (N + 1) (nrRow (upTo (tlF L ms) k) (upTo (tlF L cs) k) (N + 1))) ∧ Hid (Below w.heap.size w wr) ∧ Hid (IsRow .i64 wr pa (plc L)))
  case atStart =>
    refine ⟨0, by omega, rfl, c1, c2, Lib.hid ?_, HB, HI⟩
    rw [upTo_zero (tlF_zero L ms), upTo_zero (tlF_zero L cs)]
    exact HO.out
  case round =>
    obtain ⟨k, hk, rfl, c1, c2, HO, HB, HI⟩ := hrel
    by_cases hlt : k < N
    · have hpk := HP.out (k + 1)
      obtain ⟨p, hpp⟩ : ∃ p : Nat, pcF L (k + 1) = p := ⟨(pcF L (k + 1)).toNat, by omega⟩
      have hpN : p < N := by omega
      have hlen : (flat2 (upTo (tlF L ms) k) (upTo (tlF L cs) k) (N + 1)).length = (N + 1) * 2 := flat2_length
      obtain ⟨d2, d3⟩ := own_cell HO.out (j := (k + 1) * 2) (by omega)
      obtain ⟨d4, d5⟩ := own_cell HO.out (j := (k + 1) * 2 + 1) (by omega)
      generalize (flat2 (upTo (tlF L ms) k) (upTo (tlF L cs) k) (N + 1)).getD ((k + 1) * 2) 0 = y0 at d2
      generalize (flat2 (upTo (tlF L ms) k) (upTo (tlF L cs) k) (N + 1)).getD ((k + 1) * 2 + 1) 0 = y1 at d4
      obtain ⟨b0, o0, x0, rfl, hx0, hc0, -⟩ := HI.out.get (i := k) (by rw [HLP.out]; exact hlt)
      have hx0' : x0 = (p : Int) := by rw [← hpp, ← hx0.out, pcF, if_neg (by omega)]; rfl
      subst hx0'
      obtain ⟨b1, o1, x1, rfl, hx1, hc1, -⟩ := (HM.out.below HB.out).get (i := p) (by rw [HLM.out]; exact hpN)
      obtain ⟨b2, o2, x2, rfl, hx2, hc2, -⟩ := (HC.out.below HB.out).get (i := p) (by rw [HLC.out]; exact hpN)
      have hwr : IntKind.i64.wrap (k : Int) = (k : Int) := IntWalk.i64_in _ (by omega)
      have h5 : ((k : Int) + 1).toNat = k + 1 := by omega
      have hgb : b0 ≠ g := by have := HBL.out _ rfl; show b0 ≠ g; have h9 : w2.heap.size ≤ b0 := this.1; omega
      have HPP := Lib.hid hpp
      have HK := Lib.hid hk
      clear hpp hlen hpk c0 hx0
      go_wp2
      go_still_tail 21, (by kernel_rfl)
      go_wp2
      go_roundg (gk - 1)
      case measure => have := HK.out; omega
      case rel =>
        have hgw : w.heap.size ≠ g := by omega
        refine ⟨k + 1, by have := HK.out; omega, by push_cast; rfl, by (first | (with_reducible assumption) | ((simp only [World.frozen?_setCell, World.frozen?_drew, World.frozen?_drewN]) <;> (with_reducible assumption)) | ((repeat (first | (with_reducible assumption) | (with_reducible refine World.cell?_setCell_same _ _ _ (by with_reducible assumption)) | (rw [World.cell?_setCell_other _ _ _ _ (by intro e; simp at e; done)]) | (with_reducible refine cell_setCell_block ?_ ?_) | (rw [World.cell?_drew]) | (rw [World.cell?_drewN]) | (dsimp only; omega))); done) | (first | (with_reducible assumption) | ((try simp (disch := first | omega | (simp only [szW] <;> omega) | fail) only [ceW]) <;> first | (with_reducible assumption) | rfl))), by (first | (with_reducible assumption) | ((simp only [World.frozen?_setCell, World.frozen?_drew, World.frozen?_drewN]) <;> (with_reducible assumption)) | ((repeat (first | (with_reducible assumption) | (with_reducible refine World.cell?_setCell_same _ _ _ (by with_reducible assumption)) | (rw [World.cell?_setCell_other _ _ _ _ (by intro e; simp at e; done)]) | (with_reducible refine cell_setCell_block ?_ ?_) | (rw [World.cell?_drew]) | (rw [World.cell?_drewN]) | (dsimp only; omega))); done) | (first | (with_reducible assumption) | ((try simp (disch := first | omega | (simp only [szW] <;> omega) | fail) only [ceW]) <;> first | (with_reducible assumption) | rfl))), Lib.hid ?_, Lib.hid (((HB.out.setCell (by show w.heap.size ≤ g; omega) _).setCell (by show w.heap.size ≤ g; omega) _).drew), Lib.hid (((HI.out.setCell (fun z hz => by cases hz; exact hgb) _).setCell (fun z hz => by cases hz; exact hgb) _).drewN 1)⟩
        have q1 : tlF L ms (k + 1) = x1 := by rw [tlF, if_neg (by omega), HPP.out]; exact hx1.out
        have q2 : tlF L cs (k + 1) = x2 := by rw [tlF, if_neg (by omega), HPP.out]; exact hx2.out
        have o1 := own_set HO.out ((k + 1) * 2) x1
        rw [flat2_set0 (by omega), putF_upTo _ _ _ q1.symm] at o1
        have o2 := own_set o1 ((k + 1) * 2 + 1) x2
        rw [flat2_set1 (by omega), putF_upTo _ _ _ q2.symm] at o2
        exact o2
    · have hkN : k = N := by omega
      go_wp2
      go_ret
      refine ⟨g, rfl, ?_, HB.out⟩
      have := HO.out
      have e : nrRow (upTo (tlF L ms) k) (upTo (tlF L cs) k) (N + 1) = nrRow (tlF L ms) (tlF L cs) (N + 1) := by
        unfold nrRow
        rw [flat2_congr (a' := tlF L ms) (b' := tlF L cs) (fun i hi => by unfold upTo; rw [if_pos (by omega)]) (fun i hi => by unfold upTo; rw [if_pos (by omega)])]
      rw [← e]
      exact this
end
end Go.Proofs.Ytbmibaafkgleeaa
