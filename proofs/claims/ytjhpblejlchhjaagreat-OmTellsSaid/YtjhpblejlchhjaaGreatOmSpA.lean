/- Merged: Spoil09, OmSp. -/
import Derived.Test.YtjhpblejlchhjaaGreatSlTw
import Derived.Test.YtjhpblejlchhjaaGreatOmBs
namespace Go.Proofs.YtjhpblejlchhjaaGreat
set_option maxRecDepth 100000
set_option maxHeartbeats 4000000
set_option linter.unusedVariables false
set_option linter.unusedSimpArgs false
section
open Go.RowKit

def OwnK (k : IntKind) (e : TypeId) (B : Nat) (ao : Option Addr) (n c : Nat) (w : World) : Prop := ∃ xs : List Int, xs.length = n ∧ w.ownsRow B e 1 (.slice ao n c) n (xs.map (Value.int k))
theorem OwnK.form {k : IntKind} {e : TypeId} {B : Nat} {ao : Option Addr} {n c : Nat} {w : World} (h : OwnK k e B ao n c w) {j : Nat} (hj : j < n) : ∃ g, ao = some ⟨g, 0, none⟩ ∧ B ≤ g ∧ g < w.heap.size := by
  obtain ⟨xs, hl, h1, ⟨h2, h3⟩ | ⟨g, cap, cur, hv, hg, hh, _⟩⟩ := h
  · omega
  · cases hv; exact ⟨g, rfl, hg, (Array.getElem?_eq_some_iff.1 hh).1⟩
theorem OwnK.set {k : IntKind} {e : TypeId} {B g n c : Nat} {w : World} (h : OwnK k e B (some ⟨g, 0, none⟩) n c w) {j : Nat} (hj : j < n) :
    (∃ v, w.cell? ⟨g, j, none⟩ = some v) ∧ w.frozen? ⟨g, j, none⟩ = false ∧ ∀ y : Int, OwnK k e B (some ⟨g, 0, none⟩) n c (w.setCell ⟨g, j, none⟩ (.int k y)) := by
  obtain ⟨xs, rfl, h1⟩ := h
  obtain ⟨⟨x, _, hx⟩, hf, hs⟩ := row_cell h1 hj
  refine ⟨⟨_, hx⟩, hf, fun y => ⟨xs.set j y, by simp, ?_⟩⟩
  have := hs y
  rw [List.length_set] at this
  exact this
theorem OwnK.other {k : IntKind} {e : TypeId} {B : Nat} {ao : Option Addr} {n c : Nat} {w w' : World} (h : OwnK k e B ao n c w) (hh : ∀ k, (Value.slice ao n c).ownBlock = some k → w'.heap[k]? = w.heap[k]?) : OwnK k e B ao n c w' := by
  obtain ⟨xs, hl, h1⟩ := h
  exact ⟨xs, hl, owns_heap h1 hh⟩
theorem OwnK.apart {k k' : IntKind} {e e' : TypeId} {B B' : Nat} {ao bo : Option Addr} {n c m d : Nat} {w : World} (h : OwnK k e B ao n c w) (h' : OwnK k' e' B' bo m d w) (hne : e ≠ e') : ∀ p q, (Value.slice ao n c).ownBlock = some p → (Value.slice bo m d).ownBlock = some q → p ≠ q := by
  obtain ⟨xs, hl, h1⟩ := h
  obtain ⟨ys, hm, h2⟩ := h'
  intro p q hp hq e
  rcases owns_apart h1 h2 hne with h | h
  · rw [h] at hp; cases hp
  · exact h (by rw [hp, hq, e])
theorem OwnK.lt {k : IntKind} {e : TypeId} {B : Nat} {ao : Option Addr} {n c : Nat} {w : World} (h : OwnK k e B ao n c w) : ∀ p, (Value.slice ao n c).ownBlock = some p → p < w.heap.size := by
  obtain ⟨xs, hl, h1⟩ := h
  exact fun p hp => (owns_lt h1 hp).2
end

section
open Go.RowKit

theorem OwnK.any {k : IntKind} {e : TypeId} {B : Nat} {ao : Option Addr} {n c : Nat} {w : World} (h : OwnK k e B ao n c w) (g j : Nat) (y : Int) : OwnK k e B ao n c (w.setCell ⟨g, j, none⟩ (.int k y)) := by
  have h0 := h
  obtain ⟨xs, hl, h1⟩ := h
  have hrow := h1
  obtain ⟨h1, ⟨h2, h3⟩ | ⟨g', cap, cur, hv, hg, hh, hn, hm, hs, ht⟩⟩ := h1
  · exact ⟨xs, hl, h1, .inl ⟨h2, h3⟩⟩
  · cases hv
    by_cases hgg : g' = g
    · subst hgg
      by_cases hj : j < n
      · exact (OwnK.set h0 hj).2.2 y
      · have hc := heap_setCell_same w g' j cur e (Value.int k y) hh
        refine ⟨xs, hl, h1, .inr ⟨g', c, _, rfl, hg, hc, hn, hm, by simpa using hs, ?_⟩⟩
        rw [← ht]
        simp only [Array.toList_setIfInBounds, Nat.mul_one]
        rw [List.take_set_of_le (by omega)]
    · exact ⟨xs, hl, owns_heap hrow fun q hq => heap_setCell_ne _ _ _ (by cases hq; exact hgg)⟩
def KeepH (w w' : World) : Prop := ∀ (q : Nat) (cs : Array Value) (t : TypeId), w.heap[q]? = some (Obj.cells cs t) → t ≠ 2 → t ≠ 3 → w'.heap[q]? = some (Obj.cells cs t)
theorem KeepH.alloc (w : World) (o : Obj) : KeepH w (w.alloc o) := fun q cs t hq _ _ => (Below.heap_alloc _ _ _ (Array.getElem?_eq_some_iff.1 hq).1).trans hq
theorem KeepH.store {w wr : World} {k : IntKind} {e : TypeId} {B g n c j : Nat} (h : KeepH w wr) (ho : OwnK k e B (some ⟨g, 0, none⟩) n c wr) (hj : j < n) (he : e = 2 ∨ e = 3) (v : Value) : KeepH w (wr.setCell ⟨g, j, none⟩ v) := by
  intro q cs t hq h1 h2
  have hk := h q cs t hq h1 h2
  obtain ⟨xs, hl, -, ⟨-, hz⟩ | ⟨g', cap, cur, hv, hg, hh, -⟩⟩ := ho
  · omega
  · cases hv
    rw [heap_setCell_ne _ _ _ (fun hqg => ?_)]
    · exact hk
    · subst hqg
      rw [hh] at hk
      cases hk
      rcases he with rfl | rfl
      · exact h1 rfl
      · exact h2 rfl
theorem KeepH.owns {w w' : World} {base : Nat} {t : TypeId} {size : Nat} {v : Value} {n : Nat} {xs : List Value} (h : KeepH w w') (ho : w.ownsRow base t size v n xs) (h1 : t ≠ 2) (h2 : t ≠ 3) : w'.ownsRow base t size v n xs := by
  obtain ⟨ha, hb⟩ := ho
  refine ⟨ha, ?_⟩
  rcases hb with hb | ⟨g, cap, cur, hv, hg, hp, r⟩
  · exact .inl hb
  · exact .inr ⟨g, cap, cur, hv, hg, h g cur t hp h1 h2, r⟩
theorem spoil15_ok (c : Cfg) (sg ld mv : Int) (B : Nat) (wa ka va ca ga pa : Option Addr) (wc kc vc cc gc pc lw lk lv lc lg lp : Nat) (w : World) (hk : OwnK .i64 2 B ka lk kc w) (hc : OwnK .i64 3 B ca lc cc w) (hp : OwnK .i64 3 B pa lp pc w) (hg : OwnK .i64 3 B ga lg gc w) (hB : B ≤ w.heap.size) (b1 : lk ≤ 1000000000) (b2 : lc ≤ 1000000000) (b3 : lp ≤ 1000000000) (b4 : lg ≤ 1000000000) :
    Calls Tryz.prog 19 #[.agg #[.int .u8 c.tag, .int .i64 c.most, .int .i64 c.seg, .int .i64 c.least, .int .i64 c.den, .int .i64 c.ll, .int .i64 c.rl, .int .i64 c.rh, .int .i64 c.lh, .int .i64 sg, .slice wa lw wc, .slice ka lk kc, .slice va lv vc, .slice ca lc cc, .int .u64 ld, .slice ga lg gc, .slice pa lp pc, .int .u64 mv]] w fun e w' => (∃ v, e = .returned v) ∧ Below B w w' ∧ KeepH w w' := by
  have HK := Lib.hid hk
  have HC := Lib.hid hc
  have HA := Lib.hid hp
  have HG := Lib.hid hg
  have LK := Lib.hid hk.lt
  have LC := Lib.hid hc.lt
  have LA := Lib.hid hp.lt
  have LG := Lib.hid hg.lt
  clear hk hc hp hg
  go_enter Tryz.func19, Tryz.ntmps19
  go_wp2
  go_loopg [2] lk (fun g i wr => ∃ k : Nat, k + g = lk ∧ i = .int .i64 k ∧ Hid (OwnK .i64 2 B ka lk kc wr) ∧ Hid (OwnK .i64 3 B ca lc cc wr) ∧ Hid (OwnK .i64 3 B pa lp pc wr) ∧ Hid (OwnK .i64 3 B ga lg gc wr) ∧ wr.cell? ⟨w.heap.size, 11, none⟩ = some (.slice ka lk kc) ∧ wr.cell? ⟨w.heap.size, 13, none⟩ = some (.slice ca lc cc) ∧ wr.cell? ⟨w.heap.size, 16, none⟩ = some (.slice pa lp pc) ∧ wr.cell? ⟨w.heap.size, 15, none⟩ = some (.slice ga lg gc) ∧ Hid (Below B w wr ∧ KeepH w wr))
  case atStart => exact ⟨0, by omega, rfl, Lib.hid (HK.out.other fun k hk => Below.heap_alloc _ _ _ (LK.out k hk)), Lib.hid (HC.out.other fun k hk => Below.heap_alloc _ _ _ (LC.out k hk)), Lib.hid (HA.out.other fun k hk => Below.heap_alloc _ _ _ (LA.out k hk)), Lib.hid (HG.out.other fun k hk => Below.heap_alloc _ _ _ (LG.out k hk)), by (exact xcw), by (exact xcw), by (exact xcw), by (exact xcw), Lib.hid ⟨(Below.refl _ w).alloc hB _, KeepH.alloc w _⟩⟩
  case round =>
    obtain ⟨k0, hk0, rfl, IK0, IC0, IA0, IG0, dK0, dC0, dA0, dG0, HB0⟩ := hrel
    by_cases hlt0 : k0 < lk
    · obtain ⟨g, rfl, hg1, hg2⟩ := IK0.out.form hlt0
      obtain ⟨⟨x, hx⟩, hf, -⟩ := IK0.out.set hlt0
      have hgw : g < w.heap.size := LK.out g rfl
      have SK := Lib.hid (IK0.out.any g k0 (-7))
      have SC := Lib.hid (IC0.out.any g k0 (-7))
      have SA := Lib.hid (IA0.out.any g k0 (-7))
      have SG := Lib.hid (IG0.out.any g k0 (-7))
      have zK : (wr.setCell ⟨g, k0, none⟩ (.int .i64 (-7))).cell? ⟨w.heap.size, 11, none⟩ = some (.slice (some ⟨g, 0, none⟩) lk kc) := by rw [World.cell?_setCell_other _ _ _ _ (by intro e; simp at e <;> omega)]; exact dK0
      have zC : (wr.setCell ⟨g, k0, none⟩ (.int .i64 (-7))).cell? ⟨w.heap.size, 13, none⟩ = some (.slice ca lc cc) := by rw [World.cell?_setCell_other _ _ _ _ (by intro e; simp at e <;> omega)]; exact dC0
      have zA : (wr.setCell ⟨g, k0, none⟩ (.int .i64 (-7))).cell? ⟨w.heap.size, 16, none⟩ = some (.slice pa lp pc) := by rw [World.cell?_setCell_other _ _ _ _ (by intro e; simp at e <;> omega)]; exact dA0
      have zG : (wr.setCell ⟨g, k0, none⟩ (.int .i64 (-7))).cell? ⟨w.heap.size, 15, none⟩ = some (.slice ga lg gc) := by rw [World.cell?_setCell_other _ _ _ _ (by intro e; simp at e <;> omega)]; exact dG0
      have ZB := Lib.hid (And.intro (HB0.out.1.setCell (show B ≤ (⟨g, k0, none⟩ : Addr).block from hg1) (.int .i64 (-7))) (HB0.out.2.store IK0.out hlt0 (.inl rfl) (.int .i64 (-7))))
      have HZ := Lib.hid (And.intro zK (And.intro zC (And.intro zA zG)))
      clear zK zC zA zG
      go_wp2
      go_roundg (gk - 1)
      case measure => omega
      case rel => exact ⟨k0 + 1, by omega, by go_num, SK, SC, SA, SG, HZ.out.1, HZ.out.2.1, HZ.out.2.2.1, HZ.out.2.2.2, ZB⟩
    · obtain rfl : lk = k0 := by omega
      obtain ⟨wo0, hwo0⟩ : ∃ wo, wr = wo := ⟨_, rfl⟩
      subst hwo0
      go_wp2
      go_loopg [3] lc (fun g i wr => ∃ k : Nat, k + g = lc ∧ i = .int .i64 k ∧ Hid (OwnK .i64 2 B ka lk kc wr) ∧ Hid (OwnK .i64 3 B ca lc cc wr) ∧ Hid (OwnK .i64 3 B pa lp pc wr) ∧ Hid (OwnK .i64 3 B ga lg gc wr) ∧ wr.cell? ⟨w.heap.size, 11, none⟩ = some (.slice ka lk kc) ∧ wr.cell? ⟨w.heap.size, 13, none⟩ = some (.slice ca lc cc) ∧ wr.cell? ⟨w.heap.size, 16, none⟩ = some (.slice pa lp pc) ∧ wr.cell? ⟨w.heap.size, 15, none⟩ = some (.slice ga lg gc) ∧ Hid (Below B w wr ∧ KeepH w wr))
      case atStart => exact ⟨0, by omega, rfl, IK0, IC0, IA0, IG0, dK0, dC0, dA0, dG0, HB0⟩
      case round =>
        obtain ⟨k1, hk1, rfl, IK1, IC1, IA1, IG1, dK1, dC1, dA1, dG1, HB1⟩ := hrel
        by_cases hlt1 : k1 < lc
        · obtain ⟨g, rfl, hg1, hg2⟩ := IC1.out.form hlt1
          obtain ⟨⟨x, hx⟩, hf, -⟩ := IC1.out.set hlt1
          have hgw : g < w.heap.size := LC.out g rfl
          have SK := Lib.hid (IK1.out.any g k1 (-7))
          have SC := Lib.hid (IC1.out.any g k1 (-7))
          have SA := Lib.hid (IA1.out.any g k1 (-7))
          have SG := Lib.hid (IG1.out.any g k1 (-7))
          have zK : (wr.setCell ⟨g, k1, none⟩ (.int .i64 (-7))).cell? ⟨w.heap.size, 11, none⟩ = some (.slice ka lk kc) := by rw [World.cell?_setCell_other _ _ _ _ (by intro e; simp at e <;> omega)]; exact dK1
          have zC : (wr.setCell ⟨g, k1, none⟩ (.int .i64 (-7))).cell? ⟨w.heap.size, 13, none⟩ = some (.slice (some ⟨g, 0, none⟩) lc cc) := by rw [World.cell?_setCell_other _ _ _ _ (by intro e; simp at e <;> omega)]; exact dC1
          have zA : (wr.setCell ⟨g, k1, none⟩ (.int .i64 (-7))).cell? ⟨w.heap.size, 16, none⟩ = some (.slice pa lp pc) := by rw [World.cell?_setCell_other _ _ _ _ (by intro e; simp at e <;> omega)]; exact dA1
          have zG : (wr.setCell ⟨g, k1, none⟩ (.int .i64 (-7))).cell? ⟨w.heap.size, 15, none⟩ = some (.slice ga lg gc) := by rw [World.cell?_setCell_other _ _ _ _ (by intro e; simp at e <;> omega)]; exact dG1
          have ZB := Lib.hid (And.intro (HB1.out.1.setCell (show B ≤ (⟨g, k1, none⟩ : Addr).block from hg1) (.int .i64 (-7))) (HB1.out.2.store IC1.out hlt1 (.inr rfl) (.int .i64 (-7))))
          have HZ := Lib.hid (And.intro zK (And.intro zC (And.intro zA zG)))
          clear zK zC zA zG
          go_wp2
          go_roundg (gk - 1)
          case measure => omega
          case rel => exact ⟨k1 + 1, by omega, by go_num, SK, SC, SA, SG, HZ.out.1, HZ.out.2.1, HZ.out.2.2.1, HZ.out.2.2.2, ZB⟩
        · obtain rfl : lc = k1 := by omega
          obtain ⟨wo1, hwo1⟩ : ∃ wo, wr = wo := ⟨_, rfl⟩
          subst hwo1
          go_wp2
          go_loopg [4] lp (fun g i wr => ∃ k : Nat, k + g = lp ∧ i = .int .i64 k ∧ Hid (OwnK .i64 2 B ka lk kc wr) ∧ Hid (OwnK .i64 3 B ca lc cc wr) ∧ Hid (OwnK .i64 3 B pa lp pc wr) ∧ Hid (OwnK .i64 3 B ga lg gc wr) ∧ wr.cell? ⟨w.heap.size, 11, none⟩ = some (.slice ka lk kc) ∧ wr.cell? ⟨w.heap.size, 13, none⟩ = some (.slice ca lc cc) ∧ wr.cell? ⟨w.heap.size, 16, none⟩ = some (.slice pa lp pc) ∧ wr.cell? ⟨w.heap.size, 15, none⟩ = some (.slice ga lg gc) ∧ Hid (Below B w wr ∧ KeepH w wr))
          case atStart => exact ⟨0, by omega, rfl, IK1, IC1, IA1, IG1, dK1, dC1, dA1, dG1, HB1⟩
          case round =>
            obtain ⟨k2, hk2, rfl, IK2, IC2, IA2, IG2, dK2, dC2, dA2, dG2, HB2⟩ := hrel
            by_cases hlt2 : k2 < lp
            · obtain ⟨g, rfl, hg1, hg2⟩ := IA2.out.form hlt2
              obtain ⟨⟨x, hx⟩, hf, -⟩ := IA2.out.set hlt2
              have hgw : g < w.heap.size := LA.out g rfl
              have SK := Lib.hid (IK2.out.any g k2 (-7))
              have SC := Lib.hid (IC2.out.any g k2 (-7))
              have SA := Lib.hid (IA2.out.any g k2 (-7))
              have SG := Lib.hid (IG2.out.any g k2 (-7))
              have zK : (wr.setCell ⟨g, k2, none⟩ (.int .i64 (-7))).cell? ⟨w.heap.size, 11, none⟩ = some (.slice ka lk kc) := by rw [World.cell?_setCell_other _ _ _ _ (by intro e; simp at e <;> omega)]; exact dK2
              have zC : (wr.setCell ⟨g, k2, none⟩ (.int .i64 (-7))).cell? ⟨w.heap.size, 13, none⟩ = some (.slice ca lc cc) := by rw [World.cell?_setCell_other _ _ _ _ (by intro e; simp at e <;> omega)]; exact dC2
              have zA : (wr.setCell ⟨g, k2, none⟩ (.int .i64 (-7))).cell? ⟨w.heap.size, 16, none⟩ = some (.slice (some ⟨g, 0, none⟩) lp pc) := by rw [World.cell?_setCell_other _ _ _ _ (by intro e; simp at e <;> omega)]; exact dA2
              have zG : (wr.setCell ⟨g, k2, none⟩ (.int .i64 (-7))).cell? ⟨w.heap.size, 15, none⟩ = some (.slice ga lg gc) := by rw [World.cell?_setCell_other _ _ _ _ (by intro e; simp at e <;> omega)]; exact dG2
              have ZB := Lib.hid (And.intro (HB2.out.1.setCell (show B ≤ (⟨g, k2, none⟩ : Addr).block from hg1) (.int .i64 (-7))) (HB2.out.2.store IA2.out hlt2 (.inr rfl) (.int .i64 (-7))))
              have HZ := Lib.hid (And.intro zK (And.intro zC (And.intro zA zG)))
              clear zK zC zA zG
              go_wp2
              go_roundg (gk - 1)
              case measure => omega
              case rel => exact ⟨k2 + 1, by omega, by go_num, SK, SC, SA, SG, HZ.out.1, HZ.out.2.1, HZ.out.2.2.1, HZ.out.2.2.2, ZB⟩
            · obtain rfl : lp = k2 := by omega
              obtain ⟨wo2, hwo2⟩ : ∃ wo, wr = wo := ⟨_, rfl⟩
              subst hwo2
              go_wp2
              go_loopg [5] lg (fun g i wr => ∃ k : Nat, k + g = lg ∧ i = .int .i64 k ∧ Hid (OwnK .i64 2 B ka lk kc wr) ∧ Hid (OwnK .i64 3 B ca lc cc wr) ∧ Hid (OwnK .i64 3 B pa lp pc wr) ∧ Hid (OwnK .i64 3 B ga lg gc wr) ∧ wr.cell? ⟨w.heap.size, 11, none⟩ = some (.slice ka lk kc) ∧ wr.cell? ⟨w.heap.size, 13, none⟩ = some (.slice ca lc cc) ∧ wr.cell? ⟨w.heap.size, 16, none⟩ = some (.slice pa lp pc) ∧ wr.cell? ⟨w.heap.size, 15, none⟩ = some (.slice ga lg gc) ∧ Hid (Below B w wr ∧ KeepH w wr))
              case atStart => exact ⟨0, by omega, rfl, IK2, IC2, IA2, IG2, dK2, dC2, dA2, dG2, HB2⟩
              case round =>
                obtain ⟨k3, hk3, rfl, IK3, IC3, IA3, IG3, dK3, dC3, dA3, dG3, HB3⟩ := hrel
                by_cases hlt3 : k3 < lg
                · obtain ⟨g, rfl, hg1, hg2⟩ := IG3.out.form hlt3
                  obtain ⟨⟨x, hx⟩, hf, -⟩ := IG3.out.set hlt3
                  have hgw : g < w.heap.size := LG.out g rfl
                  have SK := Lib.hid (IK3.out.any g k3 (-7))
                  have SC := Lib.hid (IC3.out.any g k3 (-7))
                  have SA := Lib.hid (IA3.out.any g k3 (-7))
                  have SG := Lib.hid (IG3.out.any g k3 (-7))
                  have zK : (wr.setCell ⟨g, k3, none⟩ (.int .i64 (-7))).cell? ⟨w.heap.size, 11, none⟩ = some (.slice ka lk kc) := by rw [World.cell?_setCell_other _ _ _ _ (by intro e; simp at e <;> omega)]; exact dK3
                  have zC : (wr.setCell ⟨g, k3, none⟩ (.int .i64 (-7))).cell? ⟨w.heap.size, 13, none⟩ = some (.slice ca lc cc) := by rw [World.cell?_setCell_other _ _ _ _ (by intro e; simp at e <;> omega)]; exact dC3
                  have zA : (wr.setCell ⟨g, k3, none⟩ (.int .i64 (-7))).cell? ⟨w.heap.size, 16, none⟩ = some (.slice pa lp pc) := by rw [World.cell?_setCell_other _ _ _ _ (by intro e; simp at e <;> omega)]; exact dA3
                  have zG : (wr.setCell ⟨g, k3, none⟩ (.int .i64 (-7))).cell? ⟨w.heap.size, 15, none⟩ = some (.slice (some ⟨g, 0, none⟩) lg gc) := by rw [World.cell?_setCell_other _ _ _ _ (by intro e; simp at e <;> omega)]; exact dG3
                  have ZB := Lib.hid (And.intro (HB3.out.1.setCell (show B ≤ (⟨g, k3, none⟩ : Addr).block from hg1) (.int .i64 (-7))) (HB3.out.2.store IG3.out hlt3 (.inr rfl) (.int .i64 (-7))))
                  have HZ := Lib.hid (And.intro zK (And.intro zC (And.intro zA zG)))
                  clear zK zC zA zG
                  go_wp2
                  go_roundg (gk - 1)
                  case measure => omega
                  case rel => exact ⟨k3 + 1, by omega, by go_num, SK, SC, SA, SG, HZ.out.1, HZ.out.2.1, HZ.out.2.2.1, HZ.out.2.2.2, ZB⟩
                · obtain rfl : lg = k3 := by omega
                  go_wp2
                  first | go_ret | skip
                  exact bodyPost_end (results_none rfl _ _ _) rfl ⟨⟨_, rfl⟩, HB3.out⟩
end
end Go.Proofs.YtjhpblejlchhjaaGreat
