/- Merged: Tab, TabTwin, TabIt, TabCk. -/
import Derived.Test.YtjhpblejlchhjaaGreatRange
import Derived.BigRegion
import Derived.Lib.SliceRun
namespace Go.Proofs.YtjhpblejlchhjaaGreat
set_option maxRecDepth 100000
set_option maxHeartbeats 4000000
set_option linter.unusedVariables false
set_option linter.unusedSimpArgs false
section
open Go.RowKit Go.Shelf

def okAt (g a : Int) : Bool := !(decide (g < 0) || decide (2147483647 < g) || decide (a < -1) || (decide (0 ≤ a) && decide (g = 2147483647)))
def okTo (gs ps : List Int) (k : Nat) : Bool := (List.range k).all fun i => okAt (gs.getD i 0) (ps.getD i 0)
def may (gs ps : List Int) : Bool := decide (ps.length = gs.length) && decide (gs.length ≤ 65536) && okTo gs ps gs.length
theorem okTo_succ (gs ps : List Int) (k : Nat) : okTo gs ps (k + 1) = (okTo gs ps k && okAt (gs.getD k 0) (ps.getD k 0)) := by
  simp [okTo, List.range_succ]
theorem okTo_false {gs ps : List Int} {k n : Nat} (hk : k < n) (h : okAt (gs.getD k 0) (ps.getD k 0) = false) : okTo gs ps n = false := by
  rw [okTo, List.all_eq_false]
  exact ⟨k, by simpa using hk, by simpa using h⟩
theorem may_len {gs ps : List Int} (h : may gs ps = true) : ps.length = gs.length ∧ gs.length ≤ 65536 := by
  simp only [may, Bool.and_eq_true, decide_eq_true_eq] at h
  exact h.1

def mayE (gs ps : List Int) : Int := if may gs ps = true then 0 else 8
theorem mayE_yes {gs ps : List Int} (h : may gs ps = true) : mayE gs ps = 0 := by simp [mayE, h]
theorem mayE_no {gs ps : List Int} (h : may gs ps = false) : mayE gs ps = 8 := by simp [mayE, h]

abbrev tabV (ga : Option Addr) (gl gc : Nat) (aa : Option Addr) (al ac : Nat) : Value := .agg #[.slice ga gl gc, .slice aa al ac]

theorem May_ok (ga aa : Option Addr) (gc ac : Nat) (gs ps : List Int) (w : World) (hg : IsInts w ga gs) (ha : IsInts w aa ps) (hlg : gs.length ≤ 1000000000) (hla : ps.length ≤ 1000000000) :
    Calls Tryz.prog 37 #[tabV ga gs.length gc aa ps.length ac] w fun e w' => e = .returned (.bool (may gs ps)) ∧ Below w.heap.size w w' := by
  by_cases h1 : ps.length = gs.length
  · by_cases h2 : gs.length ≤ 65536
    · have hfin : may gs ps = okTo gs ps gs.length := by simp [may, h1, h2]
      rw [hfin]
      rw [h1]
      have HG := Lib.hid hg
      have HA := Lib.hid ha
      have H1 := Lib.hid h1
      clear hg ha hla hlg h1 hfin
      go_enter Tryz.func37, Tryz.ntmps37
      go_wp2
      go_loopg [3] gs.length (fun g i wr => ∃ k : Nat, k + g = gs.length ∧ i = .int .i64 k ∧ wr = w.alloc (.cells #[.slice ga gs.length gc, .slice aa gs.length ac] 31) ∧ Hid (okTo gs ps k = true))
      case atStart => exact ⟨0, by omega, rfl, rfl, Lib.hid rfl⟩
      case round =>
        obtain ⟨k, hk, rfl, rfl, HT⟩ := hrel
        by_cases hlt : k < gs.length
        · obtain ⟨b1, o1, x, rfl, hx, hc1, hl1⟩ := HG.out.get hlt
          obtain ⟨b2, o2, y, rfl, hy, hc2, hl2⟩ := HA.out.get (k := k) (by rw [H1.out]; exact hlt)
          have hstep : okTo gs ps (k + 1) = okAt x y := by rw [okTo_succ, HT.out, hx.out, hy.out]; rfl
          have hbad : okAt x y = false → okTo gs ps gs.length = false := fun h => okTo_false hlt (by rw [hx.out, hy.out]; exact h)
          have HS := Lib.hid hstep
          have HB := Lib.hid hbad
          clear hstep hbad
          by_cases c1 : x < 0
          · have HZ := Lib.hid (HB.out (by simp [okAt, c1]))
            go_wp2
            go_ret
            exact ⟨by rw [HZ.out]; rfl, (Below.refl _ _).alloc (Nat.le_refl _) _⟩
          · by_cases c2 : 2147483647 < x
            · have HZ := Lib.hid (HB.out (by simp [okAt, c2]))
              go_wp2
              go_ret
              exact ⟨by rw [HZ.out]; rfl, (Below.refl _ _).alloc (Nat.le_refl _) _⟩
            · by_cases c3 : y < -1
              · have HZ := Lib.hid (HB.out (by simp [okAt, c3]))
                go_wp2
                go_ret
                exact ⟨by rw [HZ.out]; rfl, (Below.refl _ _).alloc (Nat.le_refl _) _⟩
              · by_cases c4 : 0 ≤ y
                · by_cases c5 : x = 2147483647
                  · have HZ := Lib.hid (HB.out (by simp [okAt, c4, c5]))
                    have c6 : (x == 2147483647) = true := by simpa using c5
                    have HC := Lib.hid c5
                    clear c5
                    go_wp2
                    go_ret
                    exact ⟨by rw [HZ.out]; rfl, (Below.refl _ _).alloc (Nat.le_refl _) _⟩
                  · have c6 : (x == 2147483647) = false := by simpa using c5
                    have hok : okAt x y = true := by simp [okAt, c1, c2, c3, c5]
                    have HO := Lib.hid hok
                    clear hok c5
                    go_wp2
                    go_roundg (gk - 1)
                    case measure => omega
                    case rel => exact ⟨k + 1, by omega, by go_num, rfl, Lib.hid (HS.out.trans HO.out)⟩
                · have hok : okAt x y = true := by simp [okAt, c1, c2, c3, c4]
                  have HO := Lib.hid hok
                  clear hok
                  go_wp2
                  go_roundg (gk - 1)
                  case measure => omega
                  case rel => exact ⟨k + 1, by omega, by go_num, rfl, Lib.hid (HS.out.trans HO.out)⟩
        · obtain rfl : k = gs.length := by omega
          go_wp2
          go_ret
          exact ⟨by rw [HT.out]; rfl, (Below.refl _ _).alloc (Nat.le_refl _) _⟩
    · have hfin : may gs ps = false := by simp [may, h2]
      rw [hfin, h1]
      clear hg ha hla h1 hfin
      go_enter Tryz.func37, Tryz.ntmps37
      go_wp2
      go_ret
      exact ⟨rfl, (Below.refl _ _).alloc (Nat.le_refl _) _⟩
  · have hfin : may gs ps = false := by simp [may, h1]
    rw [hfin]
    have hne : ((ps.length : Int) != (gs.length : Int)) = true := by simp; omega
    clear hg ha h1 hfin
    go_enter Tryz.func37, Tryz.ntmps37
    go_wp2
    go_ret
    exact ⟨rfl, (Below.refl _ _).alloc (Nat.le_refl _) _⟩
end

section
open Go.RowKit Go.Shelf

theorem clone_ok (ga : Option Addr) (gc : Nat) (xs : List Int) (w : World) (hg : IsInts w ga xs) (hl : xs.length ≤ 65536) :
    Calls Tryz.prog 45 #[.slice ga xs.length gc] w (FreshInts w xs) := by
  have q22 : ∀ (w : World) (a : Option Addr) (n c n' c' : Nat), (binOp .eql 26 (.slice a n c) (.slice none n' c')).run Tryz.prog w = .ok (.bool a.isNone) w := fun w a n c n' c' => Lib.run_eql_slice_nil w _ _ a n c n' c' Tryz.underlying26
  have HG := Lib.hid hg
  clear hg
  cases ga with
  | none =>
    have hx : xs = [] := by
      cases xs with
      | nil => rfl
      | cons x t => obtain ⟨b, o, h, _⟩ := HG.out 0 (by simp); cases h
    subst hx
    go_enter Tryz.func45, Tryz.ntmps45
    go_wp2
    go_ret
    exact ⟨_, rfl, World.ownsRow_nil _ _ _ _, Below.refl _ _⟩
  | some a =>
    have hnews : ∀ ad, some a = some ad → ∀ j u, (xs.map (Value.int .i64))[j]? = some u → w.cell? (ad.add j) = some u := by
      rintro ad h j u hj
      cases h
      rw [List.getElem?_map] at hj
      cases hx : xs[j]? with
      | none => rw [hx] at hj; cases hj
      | some v =>
        rw [hx] at hj
        have hjl := (List.getElem?_eq_some_iff.1 hx).1
        obtain ⟨b, o, h, _, hc⟩ := HG.out j hjl
        cases h
        rw [Addr.add_lit, hc j hjl, List.getD_eq_getElem?_getD, hx]
        exact hj
    have HN := Lib.hid hnews
    clear hnews
    go_enter Tryz.func45, Tryz.ntmps45
    go_wp2_with (at_builtin; refine wpl_append (.tmp 5) (.tmp 6) 26 3 (.int .i64 0) 1 8 Tryz.underlying26 info_int rfl (by decide) (by decide) w.heap.size _ 0 [] (some a) xs.length gc (xs.map (Value.int .i64)) (World.ownsRow_made w #[] 0 (Nat.le_refl _) (Nat.zero_le _) rfl) (by simp) (fun h => by cases h) (fun ad h j u hj => Lib.cell?_alloc_some _ (HN.out ad h j u hj)) (oneCells _) (by omega) (by simp) rfl rfl rfl rfl ?_; intro v' w1 hown hgrow _)
    go_wp2
    go_ret
    refine ⟨v', rfl, by simpa using hown, ?_⟩
    exact ((Below.refl _ w).alloc (Nat.le_refl _) _).grown hgrow (by simp) (by intro k hk; simp [Value.ownBlock] at hk; omega)

theorem IsInts.alloc {w : World} {a : Option Addr} {xs : List Int} (h : IsInts w a xs) (ob : Obj) : IsInts (w.alloc ob) a xs := h.below ((Below.refl _ _).alloc (Nat.le_refl _) _)
def FreshTab (w : World) (gs ps : List Int) (e : Ending) (w' : World) : Prop :=
  ∃ v u, e = .returned (.agg #[v, u]) ∧ w'.ownsRow w.heap.size 3 1 v gs.length (gs.map (Value.int .i64)) ∧ w'.ownsRow w.heap.size 3 1 u ps.length (ps.map (Value.int .i64)) ∧
    (∀ k l, v.ownBlock = some k → u.ownBlock = some l → k ≠ l) ∧ Below w.heap.size w w'

theorem Twin_ok (ga aa : Option Addr) (gc ac : Nat) (gs ps : List Int) (w : World) (hg : IsInts w ga gs) (hp : IsInts w aa ps) (hlg : gs.length ≤ 65536) (hlp : ps.length ≤ 65536) :
    Calls Tryz.prog 25 #[tabV ga gs.length gc aa ps.length ac] w (FreshTab w gs ps) := by
  have HG := Lib.hid hg
  have HP := Lib.hid hp
  clear hg hp
  go_enter Tryz.func25, Tryz.ntmps25
  go_wp2
  have hS : Below w.heap.size w ((w.alloc (.cells #[.slice ga gs.length gc, .slice aa ps.length ac] 31)).alloc (.cells #[.slice none 0 0, .slice none 0 0] 31)) := ((Below.refl _ w).alloc (Nat.le_refl _) _).alloc (by simp) _
  have HS := Lib.hid hS.drew
  clear hS
  have e0 : IsInts (((w.alloc (.cells #[.slice ga gs.length gc, .slice aa ps.length ac] 31)).alloc (.cells #[.slice none 0 0, .slice none 0 0] 31)).drew) ga gs := HG.out.below HS.out
  generalize hw1 : (((w.alloc (.cells #[.slice ga gs.length gc, .slice aa ps.length ac] 31)).alloc (.cells #[.slice none 0 0, .slice none 0 0] 31))) = wz at *
  have f0 : wz.cell? ⟨w.heap.size, 0, none⟩ = some (.slice ga gs.length gc) := by rw [← hw1]; (exact xcw)
  have f1 : wz.cell? ⟨w.heap.size, 1, none⟩ = some (.slice aa ps.length ac) := by rw [← hw1]; (exact xcw)
  have f2 : wz.cell? ⟨w.heap.size + 1, 0, none⟩ = some (.slice none 0 0) := by rw [← hw1]; (exact xcw)
  have f3 : wz.cell? ⟨w.heap.size + 1, 1, none⟩ = some (.slice none 0 0) := by rw [← hw1]; (exact xcw)
  have f4 : wz.frozen? ⟨w.heap.size + 1, 0, none⟩ = false := by rw [← hw1]; (exact xcw)
  have f5 : wz.frozen? ⟨w.heap.size + 1, 1, none⟩ = false := by rw [← hw1]; (exact xcw)
  have fz : w.heap.size + 2 ≤ wz.heap.size := by
    rw [← hw1]; simp
  clear hw1
  have ez : wz.drew.heap.size = wz.heap.size := rfl
  go_region_law (first
    | (go_simp; go_at_call 45; refine (clone_ok ga gc gs _ e0 hlg).mono ?_; rintro e w1 ⟨v1, rfl, ho1, hb1⟩; obtain ⟨ao1, cc1, rfl, hn1, -⟩ := owns_news ho1
       have g1 : w1.cell? ⟨w.heap.size, 1, none⟩ = some (.slice aa ps.length ac) := (hb1.cell (p := ⟨w.heap.size, 1, none⟩) (by show w.heap.size < wz.heap.size; omega)).trans f1
       have g2 : w1.cell? ⟨w.heap.size + 1, 0, none⟩ = some (.slice none 0 0) := (hb1.cell (p := ⟨w.heap.size + 1, 0, none⟩) (by show w.heap.size + 1 < wz.heap.size; omega)).trans f2
       have g3 : w1.cell? ⟨w.heap.size + 1, 1, none⟩ = some (.slice none 0 0) := (hb1.cell (p := ⟨w.heap.size + 1, 1, none⟩) (by show w.heap.size + 1 < wz.heap.size; omega)).trans f3
       have g4 : w1.frozen? ⟨w.heap.size + 1, 0, none⟩ = false := (hb1.frozen (p := ⟨w.heap.size + 1, 0, none⟩) (by show w.heap.size + 1 < wz.heap.size; omega)).trans f4
       have g5 : w1.frozen? ⟨w.heap.size + 1, 1, none⟩ = false := (hb1.frozen (p := ⟨w.heap.size + 1, 1, none⟩) (by show w.heap.size + 1 < wz.heap.size; omega)).trans f5
       have g6 := hb1.size)
    | (go_simp; go_at_call 45; refine (clone_ok aa ac ps _ (HP.out.below (HS.out.trans (hb1.mono HS.out.size))) hlp).mono ?_; rintro e w2 ⟨v2, rfl, ho2, hb2⟩; obtain ⟨ao2, cc2, rfl, hn2, -⟩ := owns_news ho2
       have k2 : w2.cell? ⟨w.heap.size + 1, 0, none⟩ = some (.slice none 0 0) := (hb2.cell (p := ⟨w.heap.size + 1, 0, none⟩) (by show w.heap.size + 1 < w1.heap.size; omega)).trans g2
       have k3 : w2.cell? ⟨w.heap.size + 1, 1, none⟩ = some (.slice none 0 0) := (hb2.cell (p := ⟨w.heap.size + 1, 1, none⟩) (by show w.heap.size + 1 < w1.heap.size; omega)).trans g3
       have k4 : w2.frozen? ⟨w.heap.size + 1, 0, none⟩ = false := (hb2.frozen (p := ⟨w.heap.size + 1, 0, none⟩) (by show w.heap.size + 1 < w1.heap.size; omega)).trans g4
       have k5 : w2.frozen? ⟨w.heap.size + 1, 1, none⟩ = false := (hb2.frozen (p := ⟨w.heap.size + 1, 1, none⟩) (by show w.heap.size + 1 < w1.heap.size; omega)).trans g5))
  all_goals
    go_wp2
    have r1 : ((w2.setCell ⟨w.heap.size + 1, 0, none⟩ (.slice ao1 gs.length cc1)).setCell ⟨w.heap.size + 1, 1, none⟩ (.slice ao2 ps.length cc2)).cell? ⟨w.heap.size + 1, 0, none⟩ = some (.slice ao1 gs.length cc1) := by
      rw [World.cell?_setCell_other _ _ _ _ (by intro e; simp at e), World.cell?_setCell_same _ _ _ k2]
    have r2 : ((w2.setCell ⟨w.heap.size + 1, 0, none⟩ (.slice ao1 gs.length cc1)).setCell ⟨w.heap.size + 1, 1, none⟩ (.slice ao2 ps.length cc2)).cell? ⟨w.heap.size + 1, 1, none⟩ = some (.slice ao2 ps.length cc2) := by
      refine World.cell?_setCell_same _ _ _ (u := .slice none 0 0) ?_
      rw [World.cell?_setCell_other _ _ _ _ (by intro e; simp at e)]; exact k3
    have hk1 := ho1.lt
    have hk2 := ho2.lt
    have hz2 := hb2.size
    have o1 := owns_heap (W' := ((w2.setCell ⟨w.heap.size + 1, 0, none⟩ (.slice ao1 gs.length cc1)).setCell ⟨w.heap.size + 1, 1, none⟩ (.slice ao2 ps.length cc2))) (owns_base (owns_below ho1 hb2) (base' := w.heap.size) (by rw [ez]; omega)) (fun k hk => by
      have h := hk1 k hk
      rw [ez] at h
      rw [heap_setCell_ne _ _ _ (by show k ≠ w.heap.size + 1; omega), heap_setCell_ne _ _ _ (by show k ≠ w.heap.size + 1; omega)])
    have o2 := owns_heap (W' := ((w2.setCell ⟨w.heap.size + 1, 0, none⟩ (.slice ao1 gs.length cc1)).setCell ⟨w.heap.size + 1, 1, none⟩ (.slice ao2 ps.length cc2))) (owns_base ho2 (base' := w.heap.size) (by rw [ez] at g6; omega)) (fun k hk => by
      have h := hk2 k hk
      rw [ez] at g6
      rw [heap_setCell_ne _ _ _ (by show k ≠ w.heap.size + 1; omega), heap_setCell_ne _ _ _ (by show k ≠ w.heap.size + 1; omega)])
    have hbb : Below w.heap.size w ((w2.setCell ⟨w.heap.size + 1, 0, none⟩ (.slice ao1 gs.length cc1)).setCell ⟨w.heap.size + 1, 1, none⟩ (.slice ao2 ps.length cc2)) :=
      (((HS.out.trans (hb1.mono (by rw [ez]; omega))).trans (hb2.mono (by rw [ez] at g6; omega))).setCell (by show w.heap.size ≤ w.heap.size + 1; omega) _).setCell (by show w.heap.size ≤ w.heap.size + 1; omega) _
    have hne : ∀ k l, (Value.slice ao1 gs.length cc1).ownBlock = some k → (Value.slice ao2 ps.length cc2).ownBlock = some l → k ≠ l := fun k l h1 h2 => by
      have := (hk1 k h1).2; have := (hk2 l h2).1; omega
    exact bodyPost_ret (results_c rfl rfl (run_loadVar_two Tryz.underlying31 rfl (by kernel_rfl) r1 r2)) rfl ⟨_, _, rfl, o1, o2, hne, hbb⟩
end

section
open Go.RowKit Go.Shelf
attribute [local go_sem] Oper.semAt_some

def tabRow (gs ps : List Int) (k : Nat) : Array Value := #[.int .i64 k, .agg #[.int .i64 (gs.getD k 0), .int .i64 (ps.getD k 0)]]
def tabRows (gs ps : List Int) : List (Array Value) := List.map (tabRow gs ps) (List.range gs.length)
theorem tabRows_length (gs ps : List Int) : (tabRows gs ps).length = gs.length := by simp [tabRows]
theorem tabRows_get {gs ps : List Int} {k : Nat} (h : k < gs.length) : (tabRows gs ps).getD k #[] = tabRow gs ps k := by
  rw [List.getD_eq_getElem?_getD, tabRows, List.getElem?_map, List.getElem?_range h]; rfl

structure TabKp (ga aa : Option Addr) (gs ps : List Int) (b : Nat) (W W' : World) : Prop where
  box : W'.heap[b]? = W.heap[b]?
  gens : IsInts W ga gs → IsInts W' ga gs
  ats : IsInts W aa ps → IsInts W' aa ps
theorem TabKp.trans {ga aa : Option Addr} {gs ps : List Int} {b : Nat} {A B C : World} (h : TabKp ga aa gs ps b A B) (k : TabKp ga aa gs ps b B C) : TabKp ga aa gs ps b A C :=
  ⟨k.box.trans h.box, fun x => k.gens (h.gens x), fun x => k.ats (h.ats x)⟩
theorem TabKp.refl {ga aa : Option Addr} {gs ps : List Int} {b : Nat} {A : World} : TabKp ga aa gs ps b A A := ⟨rfl, id, id⟩

theorem TabKp.below {ga aa : Option Addr} {gs ps : List Int} {b : Nat} {A B : World} (h : Below A.heap.size A B) (hb : b < A.heap.size) : TabKp ga aa gs ps b A B :=
  ⟨h.block b hb, fun x => x.below h, fun x => x.below h⟩

theorem numbers1_iter (ga aa : Option Addr) (gc ac : Nat) (gs ps : List Int) (hl : ps.length = gs.length) (h1 : gs.length ≤ 65536) (b : Nat) (w : World)
    (hb0 : w.cell? ⟨b, 0, none⟩ = some (.slice ga gs.length gc)) (hb1 : w.cell? ⟨b, 1, none⟩ = some (.slice aa gs.length ac)) (hg : IsInts w ga gs) (hp : IsInts w aa ps) :
    Iter Tryz.prog 90 #[.pointer (some ⟨b, 0, none⟩)] (tabRows gs ps) (TabKp ga aa gs ps b) w := by
  intro l J Jx W hW hJ hJx hY h0
  have hbl : b < w.heap.size := World.block_lt_of_cell? w _ hb0
  have hc0 : W.cell? ⟨b, 0, none⟩ = some (.slice ga gs.length gc) := (hW.cell (p := ⟨b, 0, none⟩) hbl).trans hb0
  have hc1 : W.cell? ⟨b, 1, none⟩ = some (.slice aa gs.length ac) := (hW.cell (p := ⟨b, 1, none⟩) hbl).trans hb1
  have hgW := hg.below hW
  have hpW := hp.below hW
  have HG := Lib.hid hgW
  have HP := Lib.hid hpW
  have HY := Lib.hid hY
  have HL := Lib.hid hl
  clear hY hJ hJx hb0 hb1 hg hp hgW hpW hl
  refine callsIn_of_wp Tryz.func90 rfl trivial ?_ rfl
  simp only [Tryz.ntmps90, List.size_toArray, List.length_cons, List.length_nil, Nat.reduceAdd, Nat.reduceSub, Array.replicate_succ, Array.replicate_zero, List.push_toArray, List.append_toArray, List.nil_append, List.cons_append]
  gi_wp2
  gi_loopw [8] (fun i wr => ∃ k : Nat, k ≤ gs.length ∧ i = .int .i64 k ∧ J k wr ∧ wr.cell? ⟨b, 1, none⟩ = some (.slice aa gs.length ac) ∧ Hid (IsInts wr ga gs) ∧ Hid (IsInts wr aa ps)) (fun i _ => gs.length - (intOf i).toNat)
  case atStart => exact ⟨0, Nat.zero_le _, rfl, h0, hc1, HG, HP⟩
  case round =>
    obtain ⟨k, hk, rfl, hJk, hc1', HG', HP'⟩ := hrel
    by_cases hlt : k < gs.length
    · obtain ⟨b1, o1, x, rfl, hx, hcx, hl1⟩ := HG'.out.get hlt
      obtain ⟨b2, o2, y, rfl, hy, hcy, hl2⟩ := HP'.out.get (k := k) (by rw [HL.out]; exact hlt)
      obtain ⟨fn, tmps, assign, body, hyy, hR⟩ := HY.out k wr (by rw [tabRows_length]; exact hlt) hJk
      rw [tabRows_get hlt, tabRow, hx.out, hy.out] at hyy
      gi_wp2
      refine ⟨rfl, hR.mono ?_⟩
      rintro e W3 (⟨rfl, hJ3, hk3⟩ | ⟨rfl, hJx3⟩)
      · have hc3 : W3.cell? ⟨b, 1, none⟩ = some (.slice (some ⟨b2, o2, none⟩) gs.length ac) := by rw [World.cell?_of_block (w := wr) hk3.box]; exact hc1'
        have HG3 := Lib.hid (hk3.gens HG'.out)
        have HP3 := Lib.hid (hk3.ats HP'.out)
        clear hk3 hc1' HG' HP'
        gi_wp2
        go_roundw
        case measure => simp [intOf]; omega
        case rel => exact ⟨k + 1, by omega, by go_num, hJ3, hc3, HG3, HP3⟩
      · gi_wp2
        refine bodyPost_ret (results_none rfl _ _ _) rfl ⟨⟨_, rfl⟩, .inr ⟨k + 1, by rw [tabRows_length]; omega, hJx3⟩⟩
    · obtain rfl : k = gs.length := by omega
      gi_wp2
      refine bodyPost_end (results_none rfl _ _ _) rfl ⟨⟨_, rfl⟩, .inl ?_⟩
      rw [tabRows_length]
      exact hJk
end

section
open Go.RowKit Go.Shelf
attribute [local go_sem] Oper.semAt_some

theorem numbers_ok (ga aa : Option Addr) (gl gc al ac : Nat) (w : World) :
    Calls Tryz.prog 62 #[tabV ga gl gc aa al ac] w fun e w' =>
      e = .returned (.func (.func 90) #[] #[.pointer (some ⟨w.heap.size, 0, none⟩)]) ∧ w' = w.alloc (.cells #[.slice ga gl gc, .slice aa al ac] 31) := by
  go_enter Tryz.func62, Tryz.ntmps62
  go_wp2
  go_ret
  exact ⟨rfl, rfl⟩

structure CkI (gs ps : List Int) (B : Nat) (w : World) (k : Nat) (W : World) : Prop where
  ok : okTo gs ps k = true
  r : ∃ v, W.cell? ⟨B + 1, 0, none⟩ = some v
  f : W.frozen? ⟨B + 1, 0, none⟩ = false
  bel : Below B w W
  sz : B + 2 < W.heap.size
structure CkX (gs ps : List Int) (B : Nat) (w : World) (c : Code) (W : World) : Prop where
  code : c = .ret
  bad : may gs ps = false
  r : W.cell? ⟨B + 1, 0, none⟩ = some (.int .i64 8)
  bel : Below B w W

theorem Check_ok (ga aa : Option Addr) (gc ac : Nat) (gs ps : List Int) (w : World) (hg : IsInts w ga gs) (hp : IsInts w aa ps) (hlg : gs.length ≤ 1000000000) (hla : ps.length ≤ 1000000000) :
    Calls Tryz.prog 61 #[tabV ga gs.length gc aa ps.length ac] w fun e w' => e = .returned (.int .i64 (mayE gs ps)) ∧ Below w.heap.size w w' := by
  by_cases h1 : ps.length = gs.length
  · by_cases h2 : gs.length ≤ 65536
    · have hmay : may gs ps = okTo gs ps gs.length := by simp [may, h1, h2]
      rw [h1]
      have HG := Lib.hid hg
      have HP := Lib.hid hp
      have H1 := Lib.hid h1
      have HM := Lib.hid hmay
      clear hg hp hla hlg h1 hmay
      refine calls_of_wp_m Tryz.func61 rfl ?_
      simp only [Tryz.ntmps61, List.size_toArray, List.length_cons, List.length_nil, Nat.reduceAdd, Nat.reduceSub, Array.replicate_succ, Array.replicate_zero, List.push_toArray, List.append_toArray, List.nil_append, List.cons_append]
      go_wp2_with fail
      refine (numbers_ok _ _ _ _ _ _ _).mono ?_
      rintro e w2 ⟨rfl, rfl⟩
      go_wp2
      refine wp_range_w (xs := tabRows gs ps) (Kp := TabKp ga aa gs ps (w.heap.size + 2)) rfl (enters_of Tryz.func90 (by kernel_rfl) rfl)
        (numbers1_iter ga aa gc ac gs ps H1.out h2 (w.heap.size + 2) _ ?b0 ?b1 ?ig ?ip) (Below.refl _ _) (fun h k => h.trans k) ?kb ?ps
        (CkI gs ps w.heap.size w) (CkX gs ps w.heap.size w) ?hI ?hIx ?h0 ?round ?done ?stop
      case b0 => (exact xcw)
      case b1 => (exact xcw)
      case ig => exact ((HG.out.below ((Below.refl _ _).alloc (Nat.le_refl _) _)).below ((Below.refl _ _).alloc (Nat.le_refl _) _)).below ((Below.refl _ _).alloc (Nat.le_refl _) _)
      case ip => exact ((HP.out.below ((Below.refl _ _).alloc (Nat.le_refl _) _)).below ((Below.refl _ _).alloc (Nat.le_refl _) _)).below ((Below.refl _ _).alloc (Nat.le_refl _) _)
      case kb =>
        intro W l o o' hl ho hc
        simp at hl
        have hcalm := Calm.putObj (B := 0) o' (Nat.zero_le _) ho hc
        exact ⟨World.putObj_heap_other (by omega), hcalm.ints, hcalm.ints⟩
      case ps =>
        intro y hy
        simp only [tabRows, List.mem_map] at hy
        obtain ⟨k, _, rfl⟩ := hy
        rfl
      case hI =>
        intro k W W' hi hc
        obtain ⟨v, hv⟩ := hi.r
        exact ⟨hi.ok, ⟨v, hc.cell hv⟩, hc.frozen hv hi.f, hc.below (by simp; omega) hi.bel, Nat.lt_of_lt_of_le hi.sz hc.size⟩
      case hIx =>
        intro c W W' hi hc
        exact ⟨hi.code, hi.bad, hc.cell hi.r, hc.below (by simp; omega) hi.bel⟩
      case h0 =>
        exact ⟨rfl, ⟨_, by (exact xcw)⟩, by (exact xcw), (((Below.refl _ w).alloc (Nat.le_refl _) _).alloc (by simp) _).alloc (by simp; omega) _, by simp⟩
      case round =>
        intro l k W hl hk hi
        rw [tabRows_length] at hk
        rw [tabRows_get hk, tabRow]
        obtain ⟨x, hx⟩ : ∃ x, gs.getD k 0 = x := ⟨_, rfl⟩
        obtain ⟨y, hy⟩ : ∃ y, ps.getD k 0 = y := ⟨_, rfl⟩
        rw [hx, hy]
        have HX := Lib.hid hx
        have HY := Lib.hid hy
        have HI := Lib.hid hi
        clear hx hy hi
        gi_wp2
        have hbz := HI.out.bel.size
        have hWb : w.heap.size + 2 < W.heap.size := HI.out.sz
        have hab : Below W.heap.size W (W.alloc (.cells #[.int .i64 x, .int .i64 y] 108)) := (Below.refl _ _).alloc (Nat.le_refl _) _
        refine ⟨keeps_below hab, TabKp.below hab hWb, ?_⟩
        intro W2 hc
        have hcx : W2.cell? ⟨W.heap.size, 0, none⟩ = some (.int .i64 x) := hc.cell (by (exact xcw))
        have hcy : W2.cell? ⟨W.heap.size, 1, none⟩ = some (.int .i64 y) := hc.cell (by (exact xcw))
        obtain ⟨v, hv0⟩ := HI.out.r
        have hf0 := HI.out.f
        have hv : W2.cell? ⟨w.heap.size + 1, 0, none⟩ = some v := by
          refine hc.cell ?_
          rw [World.cell?_alloc_past _ _ _ (by omega)]; exact hv0
        have hf : W2.frozen? ⟨w.heap.size + 1, 0, none⟩ = false := by
          refine hc.frozen (v := v) ?_ ?_
          · rw [World.cell?_alloc_past _ _ _ (by omega)]; exact hv0
          · rw [World.frozen?_alloc_past _ _ _ (by omega)]; exact hf0
        have bel2 : Below w.heap.size w W2 := hc.below (by simp; omega) (HI.out.bel.alloc (by omega) _)
        have BE := Lib.hid bel2
        have HO : okAt x y = true → okTo gs ps (k + 1) = true := fun h => by rw [okTo_succ, HI.out.ok, HX.out, HY.out, h]; rfl
        have HB : okAt x y = false → may gs ps = false := fun h => by rw [HM.out]; exact okTo_false hk (by rw [HX.out, HY.out]; exact h)
        have HO' := Lib.hid HO
        have HB' := Lib.hid HB
        have HS2 : w.heap.size + 2 < W2.heap.size := by have := hc.size; simp at this; omega
        clear hbz hab hc hv0 hf0 bel2 HO HB
        have hsz : w.heap.size + 2 < W2.heap.size := HS2
        clear HS2
        by_cases c0 : y = -1
        · subst c0
          by_cases c1 : x < 0
          ·
            have HZ := Lib.hid (HB'.out (by simp [okAt, c1]))
            gi_wp2
            exact ⟨KeepsOthers.setCell _ _ _, rfl, HZ.out, World.cell?_setCell_same _ _ _ hv, BE.out.setCell (by show w.heap.size ≤ w.heap.size + 1; omega) _⟩
          · by_cases c2 : 2147483647 < x
            ·
              have HZ := Lib.hid (HB'.out (by simp [okAt, c2]))
              gi_wp2
              exact ⟨KeepsOthers.setCell _ _ _, rfl, HZ.out, World.cell?_setCell_same _ _ _ hv, BE.out.setCell (by show w.heap.size ≤ w.heap.size + 1; omega) _⟩
            ·
              have HZ := Lib.hid (HO'.out (by simp [okAt, c1, c2]))
              gi_wp2
              exact ⟨KeepsOthers.refl _, TabKp.refl, HZ.out, ⟨_, hv⟩, hf, BE.out, hsz⟩
        · have c0' : (y != -1) = true := by simpa using c0
          have hc0 : y < -1 ∨ 0 ≤ y := by omega
          clear c0
          by_cases c1 : x < 0
          ·
            have HZ := Lib.hid (HB'.out (by simp [okAt, c1]))
            gi_wp2
            exact ⟨KeepsOthers.setCell _ _ _, rfl, HZ.out, World.cell?_setCell_same _ _ _ hv, BE.out.setCell (by show w.heap.size ≤ w.heap.size + 1; omega) _⟩
          · by_cases c2 : 2147483646 < x
            · have hz : okAt x y = false := by
                rcases hc0 with h | h
                · simp [okAt, h]
                · by_cases h3 : 2147483647 < x
                  · simp [okAt, h3]
                  · simp [okAt, h, show x = 2147483647 by omega]
              have HZ := Lib.hid (HB'.out hz)
              clear hz
              gi_wp2
              exact ⟨KeepsOthers.setCell _ _ _, rfl, HZ.out, World.cell?_setCell_same _ _ _ hv, BE.out.setCell (by show w.heap.size ≤ w.heap.size + 1; omega) _⟩
            · by_cases c3 : y < -1
              ·
                have HZ := Lib.hid (HB'.out (by simp [okAt, c3]))
                gi_wp2
                exact ⟨KeepsOthers.setCell _ _ _, rfl, HZ.out, World.cell?_setCell_same _ _ _ hv, BE.out.setCell (by show w.heap.size ≤ w.heap.size + 1; omega) _⟩
              ·
                have HZ := Lib.hid (HO'.out (by simp [okAt, c1, c3, show ¬ 2147483647 < x by omega, show ¬ x = 2147483647 by omega]))
                gi_wp2
                exact ⟨KeepsOthers.refl _, TabKp.refl, HZ.out, ⟨_, hv⟩, hf, BE.out, hsz⟩
      case done =>
        intro D W hD hi hK
        obtain ⟨hok, ⟨v, hv⟩, hf, hbel, hsz⟩ := hi
        rw [tabRows_length] at hok
        have HB := Lib.hid hbel
        have hm : mayE gs ps = 0 := mayE_yes (HM.out.trans hok)
        have HZ := Lib.hid hm
        clear hok hbel hm
        go_wp2
        have hK2 : (W.setCell ⟨w.heap.size + 1, 0, none⟩ (.int .i64 0)).heap[D]? = some (.deferred (some [])) := (KeepsOthers.setCell _ _ _).same _ _ hK rfl
        have hcalm := Calm.putObj (B := w.heap.size) (.deferred none) (by simp at hD; omega) hK2 rfl
        exact postM_one hK2 (results_c rfl rfl (run_loadVar_one Tryz.underlying38 rfl (hcalm.cell (World.cell?_setCell_same _ _ _ hv)))) ⟨by rw [HZ.out], hcalm.below (Nat.le_refl _) (HB.out.setCell (by show w.heap.size ≤ w.heap.size + 1; omega) _)⟩
      case stop =>
        intro D c W hD hi hK
        obtain ⟨rfl, hbad, hr, hbel⟩ := hi
        have hm : mayE gs ps = 8 := mayE_no hbad
        have HZ := Lib.hid hm
        clear hm
        have hcalm := Calm.putObj (B := w.heap.size) (.deferred none) (by simp at hD; omega) hK rfl
        go_wp2
        exact postM_one hK (results_c rfl rfl (run_loadVar_one Tryz.underlying38 rfl (hcalm.cell hr))) ⟨by rw [HZ.out], hcalm.below (Nat.le_refl _) hbel⟩
    · have hfin : mayE gs ps = 8 := mayE_no (by simp [may, h2])
      rw [hfin, h1]
      clear hg hp hla h1 hfin
      refine calls_of_wp_m Tryz.func61 rfl ?_
      simp only [Tryz.ntmps61, List.size_toArray, List.length_cons, List.length_nil, Nat.reduceAdd, Nat.reduceSub, Array.replicate_succ, Array.replicate_zero, List.push_toArray, List.append_toArray, List.nil_append, List.cons_append]
      go_wp2
      exact postM_none (results_c rfl rfl (run_loadVar_one Tryz.underlying38 rfl (by (exact xcw)))) ⟨rfl, ((Below.refl _ w).alloc (Nat.le_refl _) _).alloc (by simp) _⟩
  · have hfin : mayE gs ps = 8 := mayE_no (by simp [may, h1])
    rw [hfin]
    have hne : ((ps.length : Int) != (gs.length : Int)) = true := by simp; omega
    clear hg hp h1 hfin
    refine calls_of_wp_m Tryz.func61 rfl ?_
    simp only [Tryz.ntmps61, List.size_toArray, List.length_cons, List.length_nil, Nat.reduceAdd, Nat.reduceSub, Array.replicate_succ, Array.replicate_zero, List.push_toArray, List.append_toArray, List.nil_append, List.cons_append]
    go_wp2
    exact postM_none (results_c rfl rfl (run_loadVar_one Tryz.underlying38 rfl (by (exact xcw)))) ⟨rfl, ((Below.refl _ w).alloc (Nat.le_refl _) _).alloc (by simp) _⟩
end
end Go.Proofs.YtjhpblejlchhjaaGreat
