/- Merged: Spoil09, Spoil11, PmTg. -/
import Derived.Test.YtmnlagmmbfjbeaaGreatDoorSlTw
import Derived.Test.YtmnlagmmbfjbeaaGreatDoorConfPl
import Derived.Test.YtmnlagmmbfjbeaaGreatDoorPmA
import Derived.Test.YtmnlagmmbfjbeaaGreatDoorPmB
import Derived.Test.YtmnlagmmbfjbeaaGreatDoorPmC
namespace Go.Proofs.YtmnlagmmbfjbeaaGreatDoor
set_option linter.unusedVariables false
set_option linter.unusedSimpArgs false
section
open Go.RowKit

/-- a row of numbers of one's own, whatever it holds -/
def OwnK (k : IntKind) (e : TypeId) (B : Nat) (ao : Option Addr) (n c : Nat) (w : World) : Prop := ∃ xs : List Int, xs.length = n ∧ w.ownsRow B e 1 (.slice ao n c) n (xs.map (Value.int k))
theorem OwnK.form {k : IntKind} {e : TypeId} {B : Nat} {ao : Option Addr} {n c : Nat} {w : World} (h : OwnK k e B ao n c w) {j : Nat} (hj : j < n) : ∃ g, ao = some ⟨g, 0, none⟩ ∧ B ≤ g ∧ g < w.heap.size := by
  obtain ⟨xs, hl, h1, ⟨h2, h3⟩ | ⟨g, cap, cur, hv, hg, hh, _⟩⟩ := h
  · omega
  · cases hv; exact ⟨g, rfl, hg, (Array.getElem?_eq_some_iff.1 hh).1⟩
theorem OwnK.set {k : IntKind} {e : TypeId} {B g n c : Nat} {w : World} (h : OwnK k e B (some ⟨g, 0, none⟩) n c w) {j : Nat} (hj : j < n) :
    (∃ v, w.cell? ⟨g, j, none⟩ = some v) ∧ w.frozen? ⟨g, j, none⟩ = false ∧ ∀ y : Int, OwnK k e B (some ⟨g, 0, none⟩) n c (w.setCell ⟨g, j, none⟩ (.int k y)) := by
  obtain ⟨xs, rfl, h1⟩ := h
  obtain ⟨⟨x, _, hx⟩, hf, hs⟩ := row_cell h1 hj
  refine ⟨⟨_, hx⟩, hf, fun y => ⟨xs.set j y, by simp, ?_⟩⟩
  have := hs y
  rw [List.length_set] at this
  exact this
theorem OwnK.other {k : IntKind} {e : TypeId} {B : Nat} {ao : Option Addr} {n c : Nat} {w w' : World} (h : OwnK k e B ao n c w) (hh : ∀ k, (Value.slice ao n c).ownBlock = some k → w'.heap[k]? = w.heap[k]?) : OwnK k e B ao n c w' := by
  obtain ⟨xs, hl, h1⟩ := h
  exact ⟨xs, hl, owns_heap h1 hh⟩
theorem OwnK.apart {k k' : IntKind} {e e' : TypeId} {B B' : Nat} {ao bo : Option Addr} {n c m d : Nat} {w : World} (h : OwnK k e B ao n c w) (h' : OwnK k' e' B' bo m d w) (hne : e ≠ e') : ∀ p q, (Value.slice ao n c).ownBlock = some p → (Value.slice bo m d).ownBlock = some q → p ≠ q := by
  obtain ⟨xs, hl, h1⟩ := h
  obtain ⟨ys, hm, h2⟩ := h'
  intro p q hp hq e
  rcases owns_apart h1 h2 hne with h | h
  · rw [h] at hp; cases hp
  · exact h (by rw [hp, hq, e])
theorem OwnK.lt {k : IntKind} {e : TypeId} {B : Nat} {ao : Option Addr} {n c : Nat} {w : World} (h : OwnK k e B ao n c w) : ∀ p, (Value.slice ao n c).ownBlock = some p → p < w.heap.size := by
  obtain ⟨xs, hl, h1⟩ := h
  exact fun p hp => (owns_lt h1 hp).2
end

section
open Go.RowKit
set_option maxHeartbeats 2000000 in
set_option maxRecDepth 100000 in
theorem spoil11_ok (c : Cfg) (sg ld : Int) (B : Nat) (wa ka va ca : Option Addr) (wc kc vc cc : Nat) (lw lk lv lc : Nat) (w : World) (hw : OwnK .u64 27 B wa lw wc w) (hk : OwnK .i64 2 B ka lk kc w) (hv : OwnK .i64 2 B va lv vc w) (hc : OwnK .i64 3 B ca lc cc w) (hkv : ∀ p q, (Value.slice ka lk kc).ownBlock = some p → (Value.slice va lv vc).ownBlock = some q → p ≠ q) (hB : B ≤ w.heap.size) (b1 : lk ≤ 1000000000) (b2 : lv ≤ 1000000000) (b3 : lw ≤ 1000000000) (b4 : lc ≤ 1000000000) :
    Calls Tryz.prog 18 #[.agg #[.int .u8 c.tag, .int .i64 c.most, .int .i64 c.seg, .int .i64 c.least, .int .i64 c.den, .int .i64 c.ll, .int .i64 c.rl, .int .i64 c.rh, .int .i64 c.lh, .int .i64 sg, .slice wa lw wc, .slice ka lk kc, .slice va lv vc, .slice ca lc cc, .int .u64 ld]] w fun e w' => (∃ v, e = .returned v) ∧ Below B w w' := by
  have HK := Lib.hid hk
  have HV := Lib.hid hv
  have HW := Lib.hid hw
  have HC := Lib.hid hc
  have AKV := Lib.hid hkv
  have AKW := Lib.hid (hk.apart hw (by decide))
  have AKC := Lib.hid (hk.apart hc (by decide))
  have AVW := Lib.hid (hv.apart hw (by decide))
  have AVC := Lib.hid (hv.apart hc (by decide))
  have AWC := Lib.hid (hw.apart hc (by decide))
  have LK := Lib.hid hk.lt
  have LV := Lib.hid hv.lt
  have LW := Lib.hid hw.lt
  have LC := Lib.hid hc.lt
  clear hw hk hv hc hkv
  go_enter Tryz.func18, Tryz.ntmps18
  go_wp2
  go_loopg [2] lk (fun g i wr => ∃ k : Nat, k + g = lk ∧ i = .int .i64 k ∧ Hid (OwnK .i64 2 B ka lk kc wr) ∧ Hid (OwnK .i64 2 B va lv vc wr) ∧ Hid (OwnK .u64 27 B wa lw wc wr) ∧ Hid (OwnK .i64 3 B ca lc cc wr) ∧ wr.cell? ⟨w.heap.size, 11, none⟩ = some (.slice ka lk kc) ∧ wr.cell? ⟨w.heap.size, 12, none⟩ = some (.slice va lv vc) ∧ wr.cell? ⟨w.heap.size, 10, none⟩ = some (.slice wa lw wc) ∧ wr.cell? ⟨w.heap.size, 13, none⟩ = some (.slice ca lc cc) ∧ Hid (Below B w wr))
  case atStart =>
    exact ⟨0, by omega, rfl, Lib.hid (HK.out.other fun k hk => Below.heap_alloc _ _ _ (LK.out k hk)), Lib.hid (HV.out.other fun k hk => Below.heap_alloc _ _ _ (LV.out k hk)), Lib.hid (HW.out.other fun k hk => Below.heap_alloc _ _ _ (LW.out k hk)), Lib.hid (HC.out.other fun k hk => Below.heap_alloc _ _ _ (LC.out k hk)), by ((try simp (disch := first | omega | (simp only [szW] <;> omega) | fail) only [ceW]) <;> rfl), by ((try simp (disch := first | omega | (simp only [szW] <;> omega) | fail) only [ceW]) <;> rfl), by ((try simp (disch := first | omega | (simp only [szW] <;> omega) | fail) only [ceW]) <;> rfl), by ((try simp (disch := first | omega | (simp only [szW] <;> omega) | fail) only [ceW]) <;> rfl), Lib.hid ((Below.refl _ w).alloc hB _)⟩
  case round =>
    obtain ⟨k0, hk, rfl, HK0, HV0, HW0, HC0, dK0, dV0, dW0, dC0, HB0⟩ := hrel
    by_cases hlt : k0 < lk
    · obtain ⟨g, rfl, hg1, hg2⟩ := HK0.out.form hlt
      obtain ⟨⟨x, hx⟩, hf, hs⟩ := HK0.out.set hlt
      have hgw : g < w.heap.size := LK.out g rfl
      have HS := Lib.hid (hs (-7))
      have GV := Lib.hid (HV0.out.other (w' := wr.setCell ⟨g, k0, none⟩ (.int .i64 (-7))) fun l hl => heap_setCell_ne _ _ _ (by have := AKV.out g l rfl hl; show l ≠ g; omega))
      have GW := Lib.hid (HW0.out.other (w' := wr.setCell ⟨g, k0, none⟩ (.int .i64 (-7))) fun l hl => heap_setCell_ne _ _ _ (by have := AKW.out g l rfl hl; show l ≠ g; omega))
      have GC := Lib.hid (HC0.out.other (w' := wr.setCell ⟨g, k0, none⟩ (.int .i64 (-7))) fun l hl => heap_setCell_ne _ _ _ (by have := AKC.out g l rfl hl; show l ≠ g; omega))
      clear hs
      go_wp2
      go_roundg (gk - 1)
      case measure => omega
      case rel => exact ⟨k0 + 1, by omega, by go_num, HS, GV, GW, GC, by rw [World.cell?_setCell_other _ _ _ _ (by intro e; simp at e <;> omega)]; exact dK0, by rw [World.cell?_setCell_other _ _ _ _ (by intro e; simp at e <;> omega)]; exact dV0, by rw [World.cell?_setCell_other _ _ _ _ (by intro e; simp at e <;> omega)]; exact dW0, by rw [World.cell?_setCell_other _ _ _ _ (by intro e; simp at e <;> omega)]; exact dC0, Lib.hid (HB0.out.setCell hg1 _)⟩
    · obtain rfl : k0 = lk := by omega
      clear hk hlt HK0 HK AKV AKW AKC
      obtain ⟨wo0, rfl⟩ : ∃ wo, wr = wo := ⟨_, rfl⟩
      go_wp2
      go_loopg [3] lv (fun g i wr => ∃ k : Nat, k + g = lv ∧ i = .int .i64 k ∧ Hid (OwnK .i64 2 B va lv vc wr) ∧ Hid (OwnK .u64 27 B wa lw wc wr) ∧ Hid (OwnK .i64 3 B ca lc cc wr) ∧ wr.cell? ⟨w.heap.size, 12, none⟩ = some (.slice va lv vc) ∧ wr.cell? ⟨w.heap.size, 10, none⟩ = some (.slice wa lw wc) ∧ wr.cell? ⟨w.heap.size, 13, none⟩ = some (.slice ca lc cc) ∧ Hid (Below B w wr))
      case atStart =>
        exact ⟨0, by omega, rfl, HV0, HW0, HC0, dV0, dW0, dC0, HB0⟩
      case round =>
        obtain ⟨k1, hk, rfl, HV1, HW1, HC1, dV1, dW1, dC1, HB1⟩ := hrel
        by_cases hlt : k1 < lv
        · obtain ⟨g, rfl, hg1, hg2⟩ := HV1.out.form hlt
          obtain ⟨⟨x, hx⟩, hf, hs⟩ := HV1.out.set hlt
          have hgw : g < w.heap.size := LV.out g rfl
          have HS := Lib.hid (hs (-7))
          have GW := Lib.hid (HW1.out.other (w' := wr.setCell ⟨g, k1, none⟩ (.int .i64 (-7))) fun l hl => heap_setCell_ne _ _ _ (by have := AVW.out g l rfl hl; show l ≠ g; omega))
          have GC := Lib.hid (HC1.out.other (w' := wr.setCell ⟨g, k1, none⟩ (.int .i64 (-7))) fun l hl => heap_setCell_ne _ _ _ (by have := AVC.out g l rfl hl; show l ≠ g; omega))
          clear hs
          go_wp2
          go_roundg (gk - 1)
          case measure => omega
          case rel => exact ⟨k1 + 1, by omega, by go_num, HS, GW, GC, by rw [World.cell?_setCell_other _ _ _ _ (by intro e; simp at e <;> omega)]; exact dV1, by rw [World.cell?_setCell_other _ _ _ _ (by intro e; simp at e <;> omega)]; exact dW1, by rw [World.cell?_setCell_other _ _ _ _ (by intro e; simp at e <;> omega)]; exact dC1, Lib.hid (HB1.out.setCell hg1 _)⟩
        · obtain rfl : k1 = lv := by omega
          clear hk hlt HV1 HV AVW AVC
          obtain ⟨wo1, rfl⟩ : ∃ wo, wr = wo := ⟨_, rfl⟩
          go_wp2
          go_loopg [4] lw (fun g i wr => ∃ k : Nat, k + g = lw ∧ i = .int .i64 k ∧ Hid (OwnK .u64 27 B wa lw wc wr) ∧ Hid (OwnK .i64 3 B ca lc cc wr) ∧ wr.cell? ⟨w.heap.size, 10, none⟩ = some (.slice wa lw wc) ∧ wr.cell? ⟨w.heap.size, 13, none⟩ = some (.slice ca lc cc) ∧ Hid (Below B w wr))
          case atStart =>
            exact ⟨0, by omega, rfl, HW1, HC1, dW1, dC1, HB1⟩
          case round =>
            obtain ⟨k2, hk, rfl, HW2, HC2, dW2, dC2, HB2⟩ := hrel
            by_cases hlt : k2 < lw
            · obtain ⟨g, rfl, hg1, hg2⟩ := HW2.out.form hlt
              obtain ⟨⟨x, hx⟩, hf, hs⟩ := HW2.out.set hlt
              have hgw : g < w.heap.size := LW.out g rfl
              have HS := Lib.hid (hs 7)
              have GC := Lib.hid (HC2.out.other (w' := wr.setCell ⟨g, k2, none⟩ (.int .u64 7)) fun l hl => heap_setCell_ne _ _ _ (by have := AWC.out g l rfl hl; show l ≠ g; omega))
              clear hs
              go_wp2
              go_roundg (gk - 1)
              case measure => omega
              case rel => exact ⟨k2 + 1, by omega, by go_num, HS, GC, by rw [World.cell?_setCell_other _ _ _ _ (by intro e; simp at e <;> omega)]; exact dW2, by rw [World.cell?_setCell_other _ _ _ _ (by intro e; simp at e <;> omega)]; exact dC2, Lib.hid (HB2.out.setCell hg1 _)⟩
            · obtain rfl : k2 = lw := by omega
              clear hk hlt HW2 HW AWC
              obtain ⟨wo2, rfl⟩ : ∃ wo, wr = wo := ⟨_, rfl⟩
              go_wp2
              go_loopg [5] lc (fun g i wr => ∃ k : Nat, k + g = lc ∧ i = .int .i64 k ∧ Hid (OwnK .i64 3 B ca lc cc wr) ∧ wr.cell? ⟨w.heap.size, 13, none⟩ = some (.slice ca lc cc) ∧ Hid (Below B w wr))
              case atStart =>
                exact ⟨0, by omega, rfl, HC2, dC2, HB2⟩
              case round =>
                obtain ⟨k3, hk, rfl, HC3, dC3, HB3⟩ := hrel
                by_cases hlt : k3 < lc
                · obtain ⟨g, rfl, hg1, hg2⟩ := HC3.out.form hlt
                  obtain ⟨⟨x, hx⟩, hf, hs⟩ := HC3.out.set hlt
                  have hgw : g < w.heap.size := LC.out g rfl
                  have HS := Lib.hid (hs (-7))
                  clear hs
                  go_wp2
                  go_roundg (gk - 1)
                  case measure => omega
                  case rel => exact ⟨k3 + 1, by omega, by go_num, HS, by rw [World.cell?_setCell_other _ _ _ _ (by intro e; simp at e <;> omega)]; exact dC3, Lib.hid (HB3.out.setCell hg1 _)⟩
                · obtain rfl : k3 = lc := by omega
                  go_wp2
                  exact bodyPost_end (results_none rfl _ _ _) rfl ⟨⟨_, rfl⟩, HB3.out⟩
end

section
open Go.RowKit Go.Sort

set_option maxRecDepth 100000 in
theorem PT_g1 (c : Cfg) (s : SlC) (wa ka va ca : Option Addr) (wc kc vc cc : Nat) (d : Cfg) (t : SlC) (wa' ka' va' ca' : Option Addr) (wc' kc' vc' cc' : Nat) (key : Int) (w : World) (h1 : gr4 600 s.ks.length s.vs.length s.ws.length s.cs.length = true) :
    Calls Tryz.prog 3 #[.agg #[.int .u8 c.tag, .int .i64 c.most, .int .i64 c.seg, .int .i64 c.least, .int .i64 c.den, .int .i64 c.ll, .int .i64 c.rl, .int .i64 c.rh, .int .i64 c.lh, .int .i64 s.seg, .slice wa s.ws.length wc, .slice ka s.ks.length kc, .slice va s.vs.length vc, .slice ca s.cs.length cc, .int .u64 s.laid], .agg #[.int .u8 d.tag, .int .i64 d.most, .int .i64 d.seg, .int .i64 d.least, .int .i64 d.den, .int .i64 d.ll, .int .i64 d.rl, .int .i64 d.rh, .int .i64 d.lh, .int .i64 t.seg, .slice wa' t.ws.length wc', .slice ka' t.ks.length kc', .slice va' t.vs.length vc', .slice ca' t.cs.length cc', .int .u64 t.laid], .int .i64 key] w (AnsB w (.bool true)) := by
  have G1 := Lib.hid (fun W => Great11_ok c s ⟨wa, ka, va, ca, wc, kc, vc, cc⟩ 600 W)
  rw [h1] at G1
  dsimp only [pmV] at *
  clear h1
  go_enter Tryz.func3, Tryz.ntmps3
  go_wp2_with fail
  refine (G1.out _).mono ?_
  rintro e w1 ⟨rfl, hb1⟩
  have hz_w1 := hb1.size
  try simp only [World.size_alloc, World.size_setCell] at hz_w1
  have hh := bc15 hb1 (au15 (al15 (b := w.heap.size) (by simp)))
  obtain ⟨c_m0, c_m1, c_m2, c_m3, c_m4, c_m5, c_m6, c_m7, c_m8, c_m9, c_m10, c_m11, c_m12, c_m13, c_m14⟩ := hh
  have z_m := blt hb1 (auz (alz (b := w.heap.size) (by simp)))
  have hh := bc15 hb1 (al15 (b := w.heap.size + 1) (by simp))
  obtain ⟨c_o0, c_o1, c_o2, c_o3, c_o4, c_o5, c_o6, c_o7, c_o8, c_o9, c_o10, c_o11, c_o12, c_o13, c_o14⟩ := hh
  have z_o := blt hb1 (alz (b := w.heap.size + 1) (by simp))
  have hB1 : Below w.heap.size w w1 := by (repeat (first | with_reducible (first | exact Below.refl _ _ | assumption | exact Hid.out (by assumption) | refine Below.alloc ?_ ?_ _ | refine Below.setCell ?_ ?_ _ | refine below_drewN ?_ _ | refine Below.drew ?_ | refine below_via (by assumption) ?_ ?_) | (first | (with_reducible assumption) | omega | (simp only [szW] <;> omega) | (simp <;> omega))))
  go_wp2
  go_ret
  exact ⟨rfl, hB1⟩
set_option maxRecDepth 100000 in
theorem PT_g2 (c : Cfg) (s : SlC) (wa ka va ca : Option Addr) (wc kc vc cc : Nat) (d : Cfg) (t : SlC) (wa' ka' va' ca' : Option Addr) (wc' kc' vc' cc' : Nat) (key : Int) (w : World) (h1 : gr4 600 s.ks.length s.vs.length s.ws.length s.cs.length = false) (h2 : gr4 600 t.ks.length t.vs.length t.ws.length t.cs.length = true) :
    Calls Tryz.prog 3 #[.agg #[.int .u8 c.tag, .int .i64 c.most, .int .i64 c.seg, .int .i64 c.least, .int .i64 c.den, .int .i64 c.ll, .int .i64 c.rl, .int .i64 c.rh, .int .i64 c.lh, .int .i64 s.seg, .slice wa s.ws.length wc, .slice ka s.ks.length kc, .slice va s.vs.length vc, .slice ca s.cs.length cc, .int .u64 s.laid], .agg #[.int .u8 d.tag, .int .i64 d.most, .int .i64 d.seg, .int .i64 d.least, .int .i64 d.den, .int .i64 d.ll, .int .i64 d.rl, .int .i64 d.rh, .int .i64 d.lh, .int .i64 t.seg, .slice wa' t.ws.length wc', .slice ka' t.ks.length kc', .slice va' t.vs.length vc', .slice ca' t.cs.length cc', .int .u64 t.laid], .int .i64 key] w (AnsB w (.bool true)) := by
  have G1 := Lib.hid (fun W => Great11_ok c s ⟨wa, ka, va, ca, wc, kc, vc, cc⟩ 600 W)
  rw [h1] at G1
  have G2 := Lib.hid (fun W => Great11_ok d t ⟨wa', ka', va', ca', wc', kc', vc', cc'⟩ 600 W)
  rw [h2] at G2
  dsimp only [pmV] at *
  clear h1 h2
  go_enter Tryz.func3, Tryz.ntmps3
  go_wp2_with fail
  refine (G1.out _).mono ?_
  rintro e w1 ⟨rfl, hb1⟩
  have hz_w1 := hb1.size
  try simp only [World.size_alloc, World.size_setCell] at hz_w1
  have hh := bc15 hb1 (au15 (al15 (b := w.heap.size) (by simp)))
  obtain ⟨c_m0, c_m1, c_m2, c_m3, c_m4, c_m5, c_m6, c_m7, c_m8, c_m9, c_m10, c_m11, c_m12, c_m13, c_m14⟩ := hh
  have z_m := blt hb1 (auz (alz (b := w.heap.size) (by simp)))
  have hh := bc15 hb1 (al15 (b := w.heap.size + 1) (by simp))
  obtain ⟨c_o0, c_o1, c_o2, c_o3, c_o4, c_o5, c_o6, c_o7, c_o8, c_o9, c_o10, c_o11, c_o12, c_o13, c_o14⟩ := hh
  have z_o := blt hb1 (alz (b := w.heap.size + 1) (by simp))
  have hB1 : Below w.heap.size w w1 := by (repeat (first | with_reducible (first | exact Below.refl _ _ | assumption | exact Hid.out (by assumption) | refine Below.alloc ?_ ?_ _ | refine Below.setCell ?_ ?_ _ | refine below_drewN ?_ _ | refine Below.drew ?_ | refine below_via (by assumption) ?_ ?_) | (first | (with_reducible assumption) | omega | (simp only [szW] <;> omega) | (simp <;> omega))))
  go_wp2_with fail
  refine (G2.out _).mono ?_
  rintro e w2 ⟨rfl, hb2⟩
  have hz_w2 := hb2.size
  try simp only [World.size_alloc, World.size_setCell] at hz_w2
  have hh := bc15 hb2 ⟨c_m0, c_m1, c_m2, c_m3, c_m4, c_m5, c_m6, c_m7, c_m8, c_m9, c_m10, c_m11, c_m12, c_m13, c_m14⟩
  clear c_m0 c_m1 c_m2 c_m3 c_m4 c_m5 c_m6 c_m7 c_m8 c_m9 c_m10 c_m11 c_m12 c_m13 c_m14
  obtain ⟨c_m0, c_m1, c_m2, c_m3, c_m4, c_m5, c_m6, c_m7, c_m8, c_m9, c_m10, c_m11, c_m12, c_m13, c_m14⟩ := hh
  replace z_m := blt hb2 z_m
  have hh := bc15 hb2 ⟨c_o0, c_o1, c_o2, c_o3, c_o4, c_o5, c_o6, c_o7, c_o8, c_o9, c_o10, c_o11, c_o12, c_o13, c_o14⟩
  clear c_o0 c_o1 c_o2 c_o3 c_o4 c_o5 c_o6 c_o7 c_o8 c_o9 c_o10 c_o11 c_o12 c_o13 c_o14
  obtain ⟨c_o0, c_o1, c_o2, c_o3, c_o4, c_o5, c_o6, c_o7, c_o8, c_o9, c_o10, c_o11, c_o12, c_o13, c_o14⟩ := hh
  replace z_o := blt hb2 z_o
  have hB2 := below_via hb2 hB1 hB1.size
  go_wp2
  go_ret
  exact ⟨rfl, hB2⟩
end
end Go.Proofs.YtmnlagmmbfjbeaaGreatDoor
