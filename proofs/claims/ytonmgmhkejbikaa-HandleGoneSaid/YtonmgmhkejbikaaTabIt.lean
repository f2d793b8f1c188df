/- The iterator of package handle: it hands on a table's numbers, in order. -/
import Derived.Test.YtonmgmhkejbikaaTab
namespace Go.Proofs.Ytonmgmhkejbikaa
open Go.RowKit Go.Shelf
attribute [local go_sem] Oper.semAt_some
set_option linter.unusedVariables false
set_option linter.unusedSimpArgs false

def tabRow (gs ps : List Int) (k : Nat) : Array Value := #[.int .i64 k, .agg #[.int .i64 (gs.getD k 0), .int .i64 (ps.getD k 0)]]
def tabRows (gs ps : List Int) : List (Array Value) := List.map (tabRow gs ps) (List.range gs.length)
theorem tabRows_length (gs ps : List Int) : (tabRows gs ps).length = gs.length := by simp [tabRows]
theorem tabRows_get {gs ps : List Int} {k : Nat} (h : k < gs.length) : (tabRows gs ps).getD k #[] = tabRow gs ps k := by
  rw [List.getD_eq_getElem?_getD, tabRows, List.getElem?_map, List.getElem?_range h]; rfl

/-- what a loop over a table must leave alone -/
structure TabKp (ga aa : Option Addr) (gs ps : List Int) (b : Nat) (W W' : World) : Prop where
  box : W'.heap[b]? = W.heap[b]?
  gens : IsInts W ga gs → IsInts W' ga gs
  ats : IsInts W aa ps → IsInts W' aa ps
theorem TabKp.trans {ga aa : Option Addr} {gs ps : List Int} {b : Nat} {A B C : World} (h : TabKp ga aa gs ps b A B) (k : TabKp ga aa gs ps b B C) : TabKp ga aa gs ps b A C :=
  ⟨k.box.trans h.box, fun x => k.gens (h.gens x), fun x => k.ats (h.ats x)⟩
theorem TabKp.refl {ga aa : Option Addr} {gs ps : List Int} {b : Nat} {A : World} : TabKp ga aa gs ps b A A := ⟨rfl, id, id⟩

theorem TabKp.below {ga aa : Option Addr} {gs ps : List Int} {b : Nat} {A B : World} (h : Below A.heap.size A B) (hb : b < A.heap.size) : TabKp ga aa gs ps b A B :=
  ⟨h.block b hb, fun x => x.below h, fun x => x.below h⟩

set_option maxHeartbeats 1000000 in
theorem numbers1_iter (ga aa : Option Addr) (gc ac : Nat) (gs ps : List Int) (hl : ps.length = gs.length) (h1 : gs.length ≤ 65536) (b : Nat) (w : World)
    (hb0 : w.cell? ⟨b, 0, none⟩ = some (.slice ga gs.length gc)) (hb1 : w.cell? ⟨b, 1, none⟩ = some (.slice aa gs.length ac)) (hg : IsInts w ga gs) (hp : IsInts w aa ps) :
    Iter Try.prog 39 #[.pointer (some ⟨b, 0, none⟩)] (tabRows gs ps) (TabKp ga aa gs ps b) w := by
  intro l J Jx W hW hJ hJx hY h0
  have hbl : b < w.heap.size := World.block_lt_of_cell? w _ hb0
  have hc0 : W.cell? ⟨b, 0, none⟩ = some (.slice ga gs.length gc) := (hW.cell (p := ⟨b, 0, none⟩) hbl).trans hb0
  have hc1 : W.cell? ⟨b, 1, none⟩ = some (.slice aa gs.length ac) := (hW.cell (p := ⟨b, 1, none⟩) hbl).trans hb1
  have hgW := hg.below hW
  have hpW := hp.below hW
  have HG := Lib.hid hgW
  have HP := Lib.hid hpW
  have HY := Lib.hid hY
  have HL := Lib.hid hl
  clear hY hJ hJx hb0 hb1 hg hp hgW hpW hl
  refine callsIn_of_wp Try.func39 rfl trivial ?_ rfl
  simp only [Try.ntmps39, List.size_toArray, List.length_cons, List.length_nil, Nat.reduceAdd, Nat.reduceSub, Array.replicate_succ, Array.replicate_zero, List.push_toArray, List.append_toArray, List.nil_append, List.cons_append]
  gi_wp2
  gi_loopw [8] (fun i wr => ∃ k : Nat, k ≤ gs.length ∧ i = .int .i64 k ∧ J k wr ∧ wr.cell? ⟨b, 1, none⟩ = some (.slice aa gs.length ac) ∧ Hid (IsInts wr ga gs) ∧ Hid (IsInts wr aa ps)) (fun i _ => gs.length - (intOf i).toNat)
  case atStart => exact ⟨0, Nat.zero_le _, rfl, h0, hc1, HG, HP⟩
  case round =>
    obtain ⟨k, hk, rfl, hJk, hc1', HG', HP'⟩ := hrel
    by_cases hlt : k < gs.length
    · obtain ⟨b1, o1, x, rfl, hx, hcx, hl1⟩ := HG'.out.get hlt
      obtain ⟨b2, o2, y, rfl, hy, hcy, hl2⟩ := HP'.out.get (k := k) (by rw [HL.out]; exact hlt)
      obtain ⟨fn, tmps, assign, body, hyy, hR⟩ := HY.out k wr (by rw [tabRows_length]; exact hlt) hJk
      rw [tabRows_get hlt, tabRow, hx.out, hy.out] at hyy
      gi_wp2
      refine ⟨rfl, hR.mono ?_⟩
      rintro e W3 (⟨rfl, hJ3, hk3⟩ | ⟨rfl, hJx3⟩)
      · have hc3 : W3.cell? ⟨b, 1, none⟩ = some (.slice (some ⟨b2, o2, none⟩) gs.length ac) := by rw [World.cell?_of_block (w := wr) hk3.box]; exact hc1'
        have HG3 := Lib.hid (hk3.gens HG'.out)
        have HP3 := Lib.hid (hk3.ats HP'.out)
        clear hk3 hc1' HG' HP'
        gi_wp2
        go_roundw
        case measure => simp [intOf]; omega
        case rel => exact ⟨k + 1, by omega, by go_num, hJ3, hc3, HG3, HP3⟩
      · gi_wp2
        refine bodyPost_ret (results_none rfl _ _ _) rfl ⟨⟨_, rfl⟩, .inr ⟨k + 1, by rw [tabRows_length]; omega, hJx3⟩⟩
    · obtain rfl : k = gs.length := by omega
      gi_wp2
      refine bodyPost_end (results_none rfl _ _ _) rfl ⟨⟨_, rfl⟩, .inl ?_⟩
      rw [tabRows_length]
      exact hJk
end Go.Proofs.Ytonmgmhkejbikaa
