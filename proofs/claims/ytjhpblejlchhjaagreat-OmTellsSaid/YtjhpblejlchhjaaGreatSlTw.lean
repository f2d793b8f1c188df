/- Merged: SlFns, Twin04. -/
import Derived.Test.YtjhpblejlchhjaaGreatIdxM
import Derived.Test.YtjhpblejlchhjaaGreatRowAll
import Derived.Test.YtjhpblejlchhjaaGreatBitsSl
namespace Go.Proofs.YtjhpblejlchhjaaGreat
set_option maxRecDepth 100000
set_option maxHeartbeats 4000000
set_option linter.unusedVariables false
set_option linter.unusedSimpArgs false
section
open Go.RowKit

theorem SameWords_ok (a b : Option Addr) (ca cb : Nat) (xs ys : List Int) (w : World) (ha : IsRow .u64 w a xs) (hb : IsRow .u64 w b ys) (hm : xs.length ≤ 1000000000) :
    Calls Tryz.prog 68 #[.slice a xs.length ca, .slice b ys.length cb] w fun e w' => e = .returned (.bool (decide (xs = ys))) ∧ ∃ n, w' = w.drewN n := by
  by_cases hlen : xs.length = ys.length
  · have hl1 : ((xs.length : Int) != (ys.length : Int)) = false := by simp [hlen]
    have HL := Lib.hid hlen
    clear hlen
    have HA := Lib.hid ha
    have HB := Lib.hid hb
    clear ha hb
    go_enter Tryz.func68, Tryz.ntmps68
    go_wp2
    go_loopg [5] xs.length (fun g i wr => ∃ (k n : Nat), k + g = xs.length ∧ i = .int .i64 k ∧ wr = w.drewN n ∧ xs.take k = ys.take k)
    case atStart => exact ⟨0, 0, by omega, rfl, rfl, by simp⟩
    case round =>
      obtain ⟨k, n, hk, rfl, rfl, ht⟩ := hrel
      have HT := Lib.hid ht
      clear ht
      by_cases hlt : k < xs.length
      · have hlt2 : k < ys.length := by rw [← HL.out]; exact hlt
        obtain ⟨b1, o1, x, rfl, hx, h1, _⟩ := HA.out.get hlt
        obtain ⟨b2, o2, y, rfl, hy, h2, _⟩ := HB.out.get hlt2
        by_cases heq : x = y
        · have he : (x != y) = false := by simpa using heq
          have HE := Lib.hid heq
          clear heq
          go_wp2
          go_quiet (fail)
          go_wp2
          go_roundg (gk - 1)
          case measure => omega
          case rel => exact ⟨k + 1, n + nq, by omega, by go_num, by simp, row_take_succ HL.out hlt HT.out (hx.out.trans (HE.out.trans hy.out.symm))⟩
        · have he : (x != y) = true := by simpa using heq
          have HE := Lib.hid heq
          clear heq
          go_wp2
          go_quiet (fail)
          go_wp2
          go_ret
          exact ⟨by have : xs ≠ ys := fun h => HE.out (by rw [← hx.out, ← hy.out, h])
                    simp [this], _, World.drewN_drewN _ _ _⟩
      · go_wp2
        go_ret
        have hk2 : k = xs.length := by omega
        have hxy : xs = ys := by
          have := HT.out
          rw [hk2, List.take_length, HL.out, List.take_length] at this
          exact this
        exact ⟨by simp [hxy], _, rfl⟩
  · have hl1 : ((xs.length : Int) != (ys.length : Int)) = true := by simp; omega
    have hxy : xs ≠ ys := fun h => hlen (by rw [h])
    have HX := Lib.hid hxy
    clear ha hb hlen hxy
    go_enter Tryz.func68, Tryz.ntmps68
    go_wp2
    go_ret
    exact ⟨by simp [HX.out], 0, rfl⟩


theorem ans_drewN {P : Program} {f : Nat} {args : Array Value} {w : World} {v : Value} (h : Calls P f args w fun e w' => e = .returned v ∧ ∃ n, w' = w.drewN n) : Calls P f args w (AnsB w v) :=
  h.mono fun e w' ⟨h1, n, h2⟩ => ⟨h1, by rw [h2]; exact below_drewN (Below.refl _ _) _⟩
def gr4 (n lk lv lw lc : Nat) : Bool := decide (n < lk) || decide (n < lv) || decide (n < lw) || decide (n < lc)
theorem Great04_ok (seg : Int) (wa ka va ca : Option Addr) (wc kc vc cc lw lk lv lc : Nat) (laid : Int) (n : Nat) (w : World) :
    Calls Tryz.prog 21 #[.agg #[.int .i64 seg, .slice wa lw wc, .slice ka lk kc, .slice va lv vc, .slice ca lc cc, .int .u64 laid], .int .i64 n] w (AnsB w (.bool (gr4 n lk lv lw lc))) := by
  go_enter Tryz.func21, Tryz.ntmps21
  go_wp2
  all_goals go_ret
  all_goals exact ⟨by first | rfl | (simp [gr4, *]; done) | (simp [gr4]; omega), (Below.refl _ _).alloc (Nat.le_refl _) _⟩

end

section
open Go.RowKit

theorem info4_uint64 : (Tryz.prog.info? 27).map (fun i => (i.zero, i.size, i.bytes)) = some (some (.int .u64 0), 1, 8) := by kernel_rfl
theorem info4_int64 : (Tryz.prog.info? 2).map (fun i => (i.zero, i.size, i.bytes)) = some (some (.int .i64 0), 1, 8) := by kernel_rfl
theorem info4_int : (Tryz.prog.info? 3).map (fun i => (i.zero, i.size, i.bytes)) = some (some (.int .i64 0), 1, 8) := by kernel_rfl
theorem made_at (W : World) (g : Nat) (e : TypeId) (h : W.heap.size = g) : (W.alloc (.cells #[] e)).ownsRow g e 1 (.slice (some ⟨g, 0, none⟩) 0 0) 0 [] := by
  subst h
  exact World.ownsRow_made W #[] 0 (Nat.le_refl _) (Nat.zero_le _) rfl
theorem row_news' {k : IntKind} {w : World} {a : Option Addr} {xs : List Int} (h : IsRow k w a xs) (ad : Addr) (ha : a = some ad) : ∀ j u, (xs.map (Value.int k))[j]? = some u → w.cell? (ad.add j) = some u := by
  subst ha
  exact fun j u hj => row_news h ad rfl j u hj
def FreshSl (w : World) (c : SlC) (e : Ending) (w' : World) : Prop :=
  ∃ v1 v2 v3 v4, e = .returned (.agg #[.int .i64 c.seg, v1, v2, v3, v4, .int .u64 c.laid]) ∧ w'.ownsRow w.heap.size 27 1 v1 c.ws.length (c.ws.map (Value.int .u64)) ∧ w'.ownsRow w.heap.size 2 1 v2 c.ks.length (c.ks.map (Value.int .i64)) ∧ w'.ownsRow w.heap.size 2 1 v3 c.vs.length (c.vs.map (Value.int .i64)) ∧ w'.ownsRow w.heap.size 3 1 v4 c.cs.length (c.cs.map (Value.int .i64)) ∧ Below w.heap.size w w'
def FreshSlN (w : World) (c : SlC) (e : Ending) (w' : World) : Prop :=
  ∃ v1 v2 v3 v4, e = .returned (.agg #[.int .i64 c.seg, v1, v2, v3, v4, .int .u64 c.laid]) ∧ w'.ownsRow w.heap.size 27 1 v1 c.ws.length (c.ws.map (Value.int .u64)) ∧ w'.ownsRow w.heap.size 2 1 v2 c.ks.length (c.ks.map (Value.int .i64)) ∧ w'.ownsRow w.heap.size 2 1 v3 c.vs.length (c.vs.map (Value.int .i64)) ∧ w'.ownsRow w.heap.size 3 1 v4 c.cs.length (c.cs.map (Value.int .i64)) ∧ Below w.heap.size w w' ∧ ∀ p q, v2.ownBlock = some p → v3.ownBlock = some q → p ≠ q
theorem six_at {w : World} {b : Nat} {x y z p q r : Value} (h0 : w.cell? ⟨b, 0, none⟩ = some x) (h1 : w.cell? ⟨b, 1, none⟩ = some y) (h2 : w.cell? ⟨b, 2, none⟩ = some z) (h3 : w.cell? ⟨b, 3, none⟩ = some p) (h4 : w.cell? ⟨b, 4, none⟩ = some q) (h5 : w.cell? ⟨b, 5, none⟩ = some r) : ∀ j v, [x, y, z, p, q, r][j]? = some v → w.cell? ⟨b, j, none⟩ = some v := by
  intro j v hj
  match j with
  | 0 => simp at hj; rw [← hj]; exact h0
  | 1 => simp at hj; rw [← hj]; exact h1
  | 2 => simp at hj; rw [← hj]; exact h2
  | 3 => simp at hj; rw [← hj]; exact h3
  | 4 => simp at hj; rw [← hj]; exact h4
  | 5 => simp at hj; rw [← hj]; exact h5
  | n + 6 => simp at hj
theorem set_keep {w : World} {a b : Addr} {v u : Value} (h : a ≠ b) (hc : w.cell? a = some u) : (w.setCell b v).cell? a = some u := (World.cell?_setCell_other _ _ _ _ (by intro e; exact h (by rw [e]))).trans hc
theorem six_set {w : World} {b : Nat} {x y z p q r x' y' z' p' q' r' : Value} (h0 : w.cell? ⟨b, 0, none⟩ = some x') (h1 : w.cell? ⟨b, 1, none⟩ = some y') (h2 : w.cell? ⟨b, 2, none⟩ = some z') (h3 : w.cell? ⟨b, 3, none⟩ = some p') (h4 : w.cell? ⟨b, 4, none⟩ = some q') (h5 : w.cell? ⟨b, 5, none⟩ = some r') :
    ∀ j v, [x, y, z, p, q, r][j]? = some v → ((((((w.setCell ⟨b, 0, none⟩ x).setCell ⟨b, 1, none⟩ y).setCell ⟨b, 2, none⟩ z).setCell ⟨b, 3, none⟩ p).setCell ⟨b, 4, none⟩ q).setCell ⟨b, 5, none⟩ r).cell? ⟨b, j, none⟩ = some v := by
  refine six_at ?_ ?_ ?_ ?_ ?_ ?_
  · exact set_keep (by simp) (set_keep (by simp) (set_keep (by simp) (set_keep (by simp) (set_keep (by simp) (World.cell?_setCell_same _ _ _ h0)))))
  · exact set_keep (by simp) (set_keep (by simp) (set_keep (by simp) (set_keep (by simp) (World.cell?_setCell_same _ _ _ (set_keep (by simp) h1)))))
  · exact set_keep (by simp) (set_keep (by simp) (set_keep (by simp) (World.cell?_setCell_same _ _ _ (set_keep (by simp) (set_keep (by simp) h2)))))
  · exact set_keep (by simp) (set_keep (by simp) (World.cell?_setCell_same _ _ _ (set_keep (by simp) (set_keep (by simp) (set_keep (by simp) h3)))))
  · exact set_keep (by simp) (World.cell?_setCell_same _ _ _ (set_keep (by simp) (set_keep (by simp) (set_keep (by simp) (set_keep (by simp) h4)))))
  · exact World.cell?_setCell_same _ _ _ (set_keep (by simp) (set_keep (by simp) (set_keep (by simp) (set_keep (by simp) (set_keep (by simp) h5)))))

theorem Twin04N_ok (c : SlC) (a : SlA) (w : World) (hin : SlIn w c a) (hl1 : c.ws.length ≤ 100000) (hl2 : c.ks.length ≤ 100000) (hl3 : c.vs.length ≤ 100000) (hl4 : c.cs.length ≤ 100000) (z1 : a.wa = none → a.wc = 0) (z2 : a.ka = none → a.kc = 0) (z3 : a.va = none → a.vc = 0) (z4 : a.ca = none → a.cc = 0) :
    Calls Tryz.prog 22 #[slV c a] w (FreshSlN w c) := by
  have HZ1 : Hid (a.wa = none → c.ws.length = 0 ∧ a.wc = 0) := Lib.hid fun e => ⟨by have := hin.w; rw [e] at this; rw [row_none this]; rfl, z1 e⟩
  have HZ2 : Hid (a.ka = none → c.ks.length = 0 ∧ a.kc = 0) := Lib.hid fun e => ⟨by have := hin.k; rw [e] at this; rw [row_none this]; rfl, z2 e⟩
  have HZ3 : Hid (a.va = none → c.vs.length = 0 ∧ a.vc = 0) := Lib.hid fun e => ⟨by have := hin.v; rw [e] at this; rw [row_none this]; rfl, z3 e⟩
  have HZ4 : Hid (a.ca = none → c.cs.length = 0 ∧ a.cc = 0) := Lib.hid fun e => ⟨by have := hin.n; rw [e] at this; rw [row_none this]; rfl, z4 e⟩
  obtain ⟨HR1, HR2, HR3, HR4, -⟩ := hin
  replace HR1 := Lib.hid HR1
  replace HR2 := Lib.hid HR2
  replace HR3 := Lib.hid HR3
  replace HR4 := Lib.hid HR4
  obtain ⟨seg, ws, ks, vs, cs, laid⟩ := c
  obtain ⟨wa, ka, va, ca, wc, kc, vc, cc⟩ := a
  dsimp only [slV, FreshSlN] at *
  obtain ⟨lw, hw⟩ : ∃ n, ws.length = n := ⟨_, rfl⟩
  obtain ⟨lk, hk⟩ : ∃ n, ks.length = n := ⟨_, rfl⟩
  obtain ⟨lv, hv⟩ : ∃ n, vs.length = n := ⟨_, rfl⟩
  obtain ⟨lc, hc⟩ : ∃ n, cs.length = n := ⟨_, rfl⟩
  rw [hw] at hl1 HZ1 ⊢
  rw [hk] at hl2 HZ2 ⊢
  rw [hv] at hl3 HZ3 ⊢
  rw [hc] at hl4 HZ4 ⊢
  have HL1 := Lib.hid hw
  have HL2 := Lib.hid hk
  have HL3 := Lib.hid hv
  have HL4 := Lib.hid hc
  clear z1 z2 z3 z4 hw hk hv hc
  go_enter Tryz.func22, Tryz.ntmps22
  go_wp2_with (first
    | (at_builtin; refine wpl_append (.tmp 3) (.tmp 5) 24 27 (.int .u64 0) 1 8 Tryz.underlying24 info4_uint64 rfl (by decide) (by decide) (w.heap.size + 1 + 1) _ 0 [] wa lw wc (ws.map (Value.int .u64)) (made_at ((w.alloc (.cells #[.int .i64 seg, .slice wa lw wc, .slice ka lk kc, .slice va lv vc, .slice ca lc cc, .int .u64 laid] 29)).alloc (.cells #[.int .i64 0, .slice none 0 0, .slice none 0 0, .slice none 0 0, .slice none 0 0, .int .u64 0] 29)) (w.heap.size + 1 + 1) 27 (by simp)) (by rw [List.length_map, HL1.out]; omega) HZ1.out (fun ad h j u hj => Lib.cell?_alloc_some _ (row_news' (HR1.out.below (((Below.refl _ _).alloc (Nat.le_refl _) _).alloc (by simp) _)) ad h j u hj)) (numCells _) (by omega) (by simp) rfl rfl rfl rfl ?_; intro v1 w1 ho1 hg1 _
       rw [Nat.zero_add, List.nil_append] at ho1
       have HB0 : Hid (Below w.heap.size w ((w.alloc (.cells #[.int .i64 seg, .slice wa lw wc, .slice ka lk kc, .slice va lv vc, .slice ca lc cc, .int .u64 laid] 29)).alloc (.cells #[.int .i64 0, .slice none 0 0, .slice none 0 0, .slice none 0 0, .slice none 0 0, .int .u64 0] 29))) := Lib.hid (((Below.refl _ _).alloc (Nat.le_refl _) _).alloc (by simp) _)
       have hz0 : w.heap.size + 2 = ((w.alloc (.cells #[.int .i64 seg, .slice wa lw wc, .slice ka lk kc, .slice va lv vc, .slice ca lc cc, .int .u64 laid] 29)).alloc (.cells #[.int .i64 0, .slice none 0 0, .slice none 0 0, .slice none 0 0, .slice none 0 0, .int .u64 0] 29)).heap.size := by simp
       have c_t0 : ((w.alloc (.cells #[.int .i64 seg, .slice wa lw wc, .slice ka lk kc, .slice va lv vc, .slice ca lc cc, .int .u64 laid] 29)).alloc (.cells #[.int .i64 0, .slice none 0 0, .slice none 0 0, .slice none 0 0, .slice none 0 0, .int .u64 0] 29)).cell? ⟨w.heap.size, 0, none⟩ = some (.int .i64 seg) := by (exact xcn)
       have f_t0 : ((w.alloc (.cells #[.int .i64 seg, .slice wa lw wc, .slice ka lk kc, .slice va lv vc, .slice ca lc cc, .int .u64 laid] 29)).alloc (.cells #[.int .i64 0, .slice none 0 0, .slice none 0 0, .slice none 0 0, .slice none 0 0, .int .u64 0] 29)).frozen? ⟨w.heap.size, 0, none⟩ = false := by (exact xcn)
       have c_t1 : ((w.alloc (.cells #[.int .i64 seg, .slice wa lw wc, .slice ka lk kc, .slice va lv vc, .slice ca lc cc, .int .u64 laid] 29)).alloc (.cells #[.int .i64 0, .slice none 0 0, .slice none 0 0, .slice none 0 0, .slice none 0 0, .int .u64 0] 29)).cell? ⟨w.heap.size, 1, none⟩ = some (.slice wa lw wc) := by (exact xcn)
       have f_t1 : ((w.alloc (.cells #[.int .i64 seg, .slice wa lw wc, .slice ka lk kc, .slice va lv vc, .slice ca lc cc, .int .u64 laid] 29)).alloc (.cells #[.int .i64 0, .slice none 0 0, .slice none 0 0, .slice none 0 0, .slice none 0 0, .int .u64 0] 29)).frozen? ⟨w.heap.size, 1, none⟩ = false := by (exact xcn)
       have c_t2 : ((w.alloc (.cells #[.int .i64 seg, .slice wa lw wc, .slice ka lk kc, .slice va lv vc, .slice ca lc cc, .int .u64 laid] 29)).alloc (.cells #[.int .i64 0, .slice none 0 0, .slice none 0 0, .slice none 0 0, .slice none 0 0, .int .u64 0] 29)).cell? ⟨w.heap.size, 2, none⟩ = some (.slice ka lk kc) := by (exact xcn)
       have f_t2 : ((w.alloc (.cells #[.int .i64 seg, .slice wa lw wc, .slice ka lk kc, .slice va lv vc, .slice ca lc cc, .int .u64 laid] 29)).alloc (.cells #[.int .i64 0, .slice none 0 0, .slice none 0 0, .slice none 0 0, .slice none 0 0, .int .u64 0] 29)).frozen? ⟨w.heap.size, 2, none⟩ = false := by (exact xcn)
       have c_t3 : ((w.alloc (.cells #[.int .i64 seg, .slice wa lw wc, .slice ka lk kc, .slice va lv vc, .slice ca lc cc, .int .u64 laid] 29)).alloc (.cells #[.int .i64 0, .slice none 0 0, .slice none 0 0, .slice none 0 0, .slice none 0 0, .int .u64 0] 29)).cell? ⟨w.heap.size, 3, none⟩ = some (.slice va lv vc) := by (exact xcn)
       have f_t3 : ((w.alloc (.cells #[.int .i64 seg, .slice wa lw wc, .slice ka lk kc, .slice va lv vc, .slice ca lc cc, .int .u64 laid] 29)).alloc (.cells #[.int .i64 0, .slice none 0 0, .slice none 0 0, .slice none 0 0, .slice none 0 0, .int .u64 0] 29)).frozen? ⟨w.heap.size, 3, none⟩ = false := by (exact xcn)
       have c_t4 : ((w.alloc (.cells #[.int .i64 seg, .slice wa lw wc, .slice ka lk kc, .slice va lv vc, .slice ca lc cc, .int .u64 laid] 29)).alloc (.cells #[.int .i64 0, .slice none 0 0, .slice none 0 0, .slice none 0 0, .slice none 0 0, .int .u64 0] 29)).cell? ⟨w.heap.size, 4, none⟩ = some (.slice ca lc cc) := by (exact xcn)
       have f_t4 : ((w.alloc (.cells #[.int .i64 seg, .slice wa lw wc, .slice ka lk kc, .slice va lv vc, .slice ca lc cc, .int .u64 laid] 29)).alloc (.cells #[.int .i64 0, .slice none 0 0, .slice none 0 0, .slice none 0 0, .slice none 0 0, .int .u64 0] 29)).frozen? ⟨w.heap.size, 4, none⟩ = false := by (exact xcn)
       have c_t5 : ((w.alloc (.cells #[.int .i64 seg, .slice wa lw wc, .slice ka lk kc, .slice va lv vc, .slice ca lc cc, .int .u64 laid] 29)).alloc (.cells #[.int .i64 0, .slice none 0 0, .slice none 0 0, .slice none 0 0, .slice none 0 0, .int .u64 0] 29)).cell? ⟨w.heap.size, 5, none⟩ = some (.int .u64 laid) := by (exact xcn)
       have f_t5 : ((w.alloc (.cells #[.int .i64 seg, .slice wa lw wc, .slice ka lk kc, .slice va lv vc, .slice ca lc cc, .int .u64 laid] 29)).alloc (.cells #[.int .i64 0, .slice none 0 0, .slice none 0 0, .slice none 0 0, .slice none 0 0, .int .u64 0] 29)).frozen? ⟨w.heap.size, 5, none⟩ = false := by (exact xcn)
       have c_r0 : ((w.alloc (.cells #[.int .i64 seg, .slice wa lw wc, .slice ka lk kc, .slice va lv vc, .slice ca lc cc, .int .u64 laid] 29)).alloc (.cells #[.int .i64 0, .slice none 0 0, .slice none 0 0, .slice none 0 0, .slice none 0 0, .int .u64 0] 29)).cell? ⟨w.heap.size + 1, 0, none⟩ = some (.int .i64 0) := by (exact xcn)
       have f_r0 : ((w.alloc (.cells #[.int .i64 seg, .slice wa lw wc, .slice ka lk kc, .slice va lv vc, .slice ca lc cc, .int .u64 laid] 29)).alloc (.cells #[.int .i64 0, .slice none 0 0, .slice none 0 0, .slice none 0 0, .slice none 0 0, .int .u64 0] 29)).frozen? ⟨w.heap.size + 1, 0, none⟩ = false := by (exact xcn)
       have c_r1 : ((w.alloc (.cells #[.int .i64 seg, .slice wa lw wc, .slice ka lk kc, .slice va lv vc, .slice ca lc cc, .int .u64 laid] 29)).alloc (.cells #[.int .i64 0, .slice none 0 0, .slice none 0 0, .slice none 0 0, .slice none 0 0, .int .u64 0] 29)).cell? ⟨w.heap.size + 1, 1, none⟩ = some (.slice none 0 0) := by (exact xcn)
       have f_r1 : ((w.alloc (.cells #[.int .i64 seg, .slice wa lw wc, .slice ka lk kc, .slice va lv vc, .slice ca lc cc, .int .u64 laid] 29)).alloc (.cells #[.int .i64 0, .slice none 0 0, .slice none 0 0, .slice none 0 0, .slice none 0 0, .int .u64 0] 29)).frozen? ⟨w.heap.size + 1, 1, none⟩ = false := by (exact xcn)
       have c_r2 : ((w.alloc (.cells #[.int .i64 seg, .slice wa lw wc, .slice ka lk kc, .slice va lv vc, .slice ca lc cc, .int .u64 laid] 29)).alloc (.cells #[.int .i64 0, .slice none 0 0, .slice none 0 0, .slice none 0 0, .slice none 0 0, .int .u64 0] 29)).cell? ⟨w.heap.size + 1, 2, none⟩ = some (.slice none 0 0) := by (exact xcn)
       have f_r2 : ((w.alloc (.cells #[.int .i64 seg, .slice wa lw wc, .slice ka lk kc, .slice va lv vc, .slice ca lc cc, .int .u64 laid] 29)).alloc (.cells #[.int .i64 0, .slice none 0 0, .slice none 0 0, .slice none 0 0, .slice none 0 0, .int .u64 0] 29)).frozen? ⟨w.heap.size + 1, 2, none⟩ = false := by (exact xcn)
       have c_r3 : ((w.alloc (.cells #[.int .i64 seg, .slice wa lw wc, .slice ka lk kc, .slice va lv vc, .slice ca lc cc, .int .u64 laid] 29)).alloc (.cells #[.int .i64 0, .slice none 0 0, .slice none 0 0, .slice none 0 0, .slice none 0 0, .int .u64 0] 29)).cell? ⟨w.heap.size + 1, 3, none⟩ = some (.slice none 0 0) := by (exact xcn)
       have f_r3 : ((w.alloc (.cells #[.int .i64 seg, .slice wa lw wc, .slice ka lk kc, .slice va lv vc, .slice ca lc cc, .int .u64 laid] 29)).alloc (.cells #[.int .i64 0, .slice none 0 0, .slice none 0 0, .slice none 0 0, .slice none 0 0, .int .u64 0] 29)).frozen? ⟨w.heap.size + 1, 3, none⟩ = false := by (exact xcn)
       have c_r4 : ((w.alloc (.cells #[.int .i64 seg, .slice wa lw wc, .slice ka lk kc, .slice va lv vc, .slice ca lc cc, .int .u64 laid] 29)).alloc (.cells #[.int .i64 0, .slice none 0 0, .slice none 0 0, .slice none 0 0, .slice none 0 0, .int .u64 0] 29)).cell? ⟨w.heap.size + 1, 4, none⟩ = some (.slice none 0 0) := by (exact xcn)
       have f_r4 : ((w.alloc (.cells #[.int .i64 seg, .slice wa lw wc, .slice ka lk kc, .slice va lv vc, .slice ca lc cc, .int .u64 laid] 29)).alloc (.cells #[.int .i64 0, .slice none 0 0, .slice none 0 0, .slice none 0 0, .slice none 0 0, .int .u64 0] 29)).frozen? ⟨w.heap.size + 1, 4, none⟩ = false := by (exact xcn)
       have c_r5 : ((w.alloc (.cells #[.int .i64 seg, .slice wa lw wc, .slice ka lk kc, .slice va lv vc, .slice ca lc cc, .int .u64 laid] 29)).alloc (.cells #[.int .i64 0, .slice none 0 0, .slice none 0 0, .slice none 0 0, .slice none 0 0, .int .u64 0] 29)).cell? ⟨w.heap.size + 1, 5, none⟩ = some (.int .u64 0) := by (exact xcn)
       have f_r5 : ((w.alloc (.cells #[.int .i64 seg, .slice wa lw wc, .slice ka lk kc, .slice va lv vc, .slice ca lc cc, .int .u64 laid] 29)).alloc (.cells #[.int .i64 0, .slice none 0 0, .slice none 0 0, .slice none 0 0, .slice none 0 0, .int .u64 0] 29)).frozen? ⟨w.heap.size + 1, 5, none⟩ = false := by (exact xcn)
       generalize ((w.alloc (.cells #[.int .i64 seg, .slice wa lw wc, .slice ka lk kc, .slice va lv vc, .slice ca lc cc, .int .u64 laid] 29)).alloc (.cells #[.int .i64 0, .slice none 0 0, .slice none 0 0, .slice none 0 0, .slice none 0 0, .int .u64 0] 29)) = w0 at *
       rw [show w.heap.size + 1 + 1 = w0.heap.size by omega] at ho1 hg1
       have hb1 : Below w0.heap.size w0 w1 := ((Below.refl _ w0).alloc (Nat.le_refl _) _).grown hg1 (by simp) (by intro k hk; simp [Value.ownBlock] at hk; omega)
       obtain ⟨a1, c1, rfl, -⟩ := owns_news ho1
       have hzz1 := hb1.size
       replace c_t0 : w1.cell? ⟨w.heap.size, 0, none⟩ = some (.int .i64 seg) := (hb1.cell (p := ⟨w.heap.size, 0, none⟩) (by dsimp only; omega)).trans c_t0
       replace f_t0 : w1.frozen? ⟨w.heap.size, 0, none⟩ = false := (hb1.frozen (p := ⟨w.heap.size, 0, none⟩) (by dsimp only; omega)).trans f_t0
       replace c_t1 : w1.cell? ⟨w.heap.size, 1, none⟩ = some (.slice wa lw wc) := (hb1.cell (p := ⟨w.heap.size, 1, none⟩) (by dsimp only; omega)).trans c_t1
       replace f_t1 : w1.frozen? ⟨w.heap.size, 1, none⟩ = false := (hb1.frozen (p := ⟨w.heap.size, 1, none⟩) (by dsimp only; omega)).trans f_t1
       replace c_t2 : w1.cell? ⟨w.heap.size, 2, none⟩ = some (.slice ka lk kc) := (hb1.cell (p := ⟨w.heap.size, 2, none⟩) (by dsimp only; omega)).trans c_t2
       replace f_t2 : w1.frozen? ⟨w.heap.size, 2, none⟩ = false := (hb1.frozen (p := ⟨w.heap.size, 2, none⟩) (by dsimp only; omega)).trans f_t2
       replace c_t3 : w1.cell? ⟨w.heap.size, 3, none⟩ = some (.slice va lv vc) := (hb1.cell (p := ⟨w.heap.size, 3, none⟩) (by dsimp only; omega)).trans c_t3
       replace f_t3 : w1.frozen? ⟨w.heap.size, 3, none⟩ = false := (hb1.frozen (p := ⟨w.heap.size, 3, none⟩) (by dsimp only; omega)).trans f_t3
       replace c_t4 : w1.cell? ⟨w.heap.size, 4, none⟩ = some (.slice ca lc cc) := (hb1.cell (p := ⟨w.heap.size, 4, none⟩) (by dsimp only; omega)).trans c_t4
       replace f_t4 : w1.frozen? ⟨w.heap.size, 4, none⟩ = false := (hb1.frozen (p := ⟨w.heap.size, 4, none⟩) (by dsimp only; omega)).trans f_t4
       replace c_t5 : w1.cell? ⟨w.heap.size, 5, none⟩ = some (.int .u64 laid) := (hb1.cell (p := ⟨w.heap.size, 5, none⟩) (by dsimp only; omega)).trans c_t5
       replace f_t5 : w1.frozen? ⟨w.heap.size, 5, none⟩ = false := (hb1.frozen (p := ⟨w.heap.size, 5, none⟩) (by dsimp only; omega)).trans f_t5
       replace c_r0 : w1.cell? ⟨w.heap.size + 1, 0, none⟩ = some (.int .i64 0) := (hb1.cell (p := ⟨w.heap.size + 1, 0, none⟩) (by dsimp only; omega)).trans c_r0
       replace f_r0 : w1.frozen? ⟨w.heap.size + 1, 0, none⟩ = false := (hb1.frozen (p := ⟨w.heap.size + 1, 0, none⟩) (by dsimp only; omega)).trans f_r0
       replace c_r1 : w1.cell? ⟨w.heap.size + 1, 1, none⟩ = some (.slice none 0 0) := (hb1.cell (p := ⟨w.heap.size + 1, 1, none⟩) (by dsimp only; omega)).trans c_r1
       replace f_r1 : w1.frozen? ⟨w.heap.size + 1, 1, none⟩ = false := (hb1.frozen (p := ⟨w.heap.size + 1, 1, none⟩) (by dsimp only; omega)).trans f_r1
       replace c_r2 : w1.cell? ⟨w.heap.size + 1, 2, none⟩ = some (.slice none 0 0) := (hb1.cell (p := ⟨w.heap.size + 1, 2, none⟩) (by dsimp only; omega)).trans c_r2
       replace f_r2 : w1.frozen? ⟨w.heap.size + 1, 2, none⟩ = false := (hb1.frozen (p := ⟨w.heap.size + 1, 2, none⟩) (by dsimp only; omega)).trans f_r2
       replace c_r3 : w1.cell? ⟨w.heap.size + 1, 3, none⟩ = some (.slice none 0 0) := (hb1.cell (p := ⟨w.heap.size + 1, 3, none⟩) (by dsimp only; omega)).trans c_r3
       replace f_r3 : w1.frozen? ⟨w.heap.size + 1, 3, none⟩ = false := (hb1.frozen (p := ⟨w.heap.size + 1, 3, none⟩) (by dsimp only; omega)).trans f_r3
       replace c_r4 : w1.cell? ⟨w.heap.size + 1, 4, none⟩ = some (.slice none 0 0) := (hb1.cell (p := ⟨w.heap.size + 1, 4, none⟩) (by dsimp only; omega)).trans c_r4
       replace f_r4 : w1.frozen? ⟨w.heap.size + 1, 4, none⟩ = false := (hb1.frozen (p := ⟨w.heap.size + 1, 4, none⟩) (by dsimp only; omega)).trans f_r4
       replace c_r5 : w1.cell? ⟨w.heap.size + 1, 5, none⟩ = some (.int .u64 0) := (hb1.cell (p := ⟨w.heap.size + 1, 5, none⟩) (by dsimp only; omega)).trans c_r5
       replace f_r5 : w1.frozen? ⟨w.heap.size + 1, 5, none⟩ = false := (hb1.frozen (p := ⟨w.heap.size + 1, 5, none⟩) (by dsimp only; omega)).trans f_r5
       have HC1 := Lib.hid (below_via hb1 HB0.out (by omega))
       have z_t1 : w.heap.size < w1.heap.size := by omega
       have z_r1 : w.heap.size + 1 < w1.heap.size := by omega
       have HP1 := Lib.hid ho1
       have HD1 := Lib.hid hb1
       clear ho1 hg1 hb1)
    | (at_builtin; refine wpl_append (.tmp 8) (.tmp 10) 25 2 (.int .i64 0) 1 8 Tryz.underlying25 info4_int64 rfl (by decide) (by decide) w1.heap.size _ 0 [] ka lk kc (ks.map (Value.int .i64)) (made_at (w1.setCell ⟨w.heap.size, 1, none⟩ (.slice a1 lw c1)) w1.heap.size 2 (by simp)) (by rw [List.length_map, HL2.out]; omega) HZ2.out (fun ad h j u hj => Lib.cell?_alloc_some _ (row_news' (HR2.out.below (HC1.out.setCell (by dsimp only; omega) _)) ad h j u hj)) (numCells _) (by omega) (by simp) rfl rfl rfl rfl ?_; intro v2 w2 ho2 hg2 _
       rw [Nat.zero_add, List.nil_append] at ho2
       have HB1 : Hid (Below w.heap.size w (w1.setCell ⟨w.heap.size, 1, none⟩ (.slice a1 lw c1))) := Lib.hid (HC1.out.setCell (by dsimp only; omega) _)
       have hs1 : w1.heap.size = (w1.setCell ⟨w.heap.size, 1, none⟩ (.slice a1 lw c1)).heap.size := by simp
       replace c_t0 : (w1.setCell ⟨w.heap.size, 1, none⟩ (.slice a1 lw c1)).cell? ⟨w.heap.size, 0, none⟩ = some (.int .i64 seg) := set_keep (by simp) c_t0
       replace f_t0 : (w1.setCell ⟨w.heap.size, 1, none⟩ (.slice a1 lw c1)).frozen? ⟨w.heap.size, 0, none⟩ = false := by rw [World.frozen?_setCell]; exact f_t0
       replace c_t1 : (w1.setCell ⟨w.heap.size, 1, none⟩ (.slice a1 lw c1)).cell? ⟨w.heap.size, 1, none⟩ = some (.slice a1 lw c1) := World.cell?_setCell_same _ _ _ c_t1
       replace f_t1 : (w1.setCell ⟨w.heap.size, 1, none⟩ (.slice a1 lw c1)).frozen? ⟨w.heap.size, 1, none⟩ = false := by rw [World.frozen?_setCell]; exact f_t1
       replace c_t2 : (w1.setCell ⟨w.heap.size, 1, none⟩ (.slice a1 lw c1)).cell? ⟨w.heap.size, 2, none⟩ = some (.slice ka lk kc) := set_keep (by simp) c_t2
       replace f_t2 : (w1.setCell ⟨w.heap.size, 1, none⟩ (.slice a1 lw c1)).frozen? ⟨w.heap.size, 2, none⟩ = false := by rw [World.frozen?_setCell]; exact f_t2
       replace c_t3 : (w1.setCell ⟨w.heap.size, 1, none⟩ (.slice a1 lw c1)).cell? ⟨w.heap.size, 3, none⟩ = some (.slice va lv vc) := set_keep (by simp) c_t3
       replace f_t3 : (w1.setCell ⟨w.heap.size, 1, none⟩ (.slice a1 lw c1)).frozen? ⟨w.heap.size, 3, none⟩ = false := by rw [World.frozen?_setCell]; exact f_t3
       replace c_t4 : (w1.setCell ⟨w.heap.size, 1, none⟩ (.slice a1 lw c1)).cell? ⟨w.heap.size, 4, none⟩ = some (.slice ca lc cc) := set_keep (by simp) c_t4
       replace f_t4 : (w1.setCell ⟨w.heap.size, 1, none⟩ (.slice a1 lw c1)).frozen? ⟨w.heap.size, 4, none⟩ = false := by rw [World.frozen?_setCell]; exact f_t4
       replace c_t5 : (w1.setCell ⟨w.heap.size, 1, none⟩ (.slice a1 lw c1)).cell? ⟨w.heap.size, 5, none⟩ = some (.int .u64 laid) := set_keep (by simp) c_t5
       replace f_t5 : (w1.setCell ⟨w.heap.size, 1, none⟩ (.slice a1 lw c1)).frozen? ⟨w.heap.size, 5, none⟩ = false := by rw [World.frozen?_setCell]; exact f_t5
       replace c_r0 : (w1.setCell ⟨w.heap.size, 1, none⟩ (.slice a1 lw c1)).cell? ⟨w.heap.size + 1, 0, none⟩ = some (.int .i64 0) := set_keep (by simp) c_r0
       replace f_r0 : (w1.setCell ⟨w.heap.size, 1, none⟩ (.slice a1 lw c1)).frozen? ⟨w.heap.size + 1, 0, none⟩ = false := by rw [World.frozen?_setCell]; exact f_r0
       replace c_r1 : (w1.setCell ⟨w.heap.size, 1, none⟩ (.slice a1 lw c1)).cell? ⟨w.heap.size + 1, 1, none⟩ = some (.slice none 0 0) := set_keep (by simp) c_r1
       replace f_r1 : (w1.setCell ⟨w.heap.size, 1, none⟩ (.slice a1 lw c1)).frozen? ⟨w.heap.size + 1, 1, none⟩ = false := by rw [World.frozen?_setCell]; exact f_r1
       replace c_r2 : (w1.setCell ⟨w.heap.size, 1, none⟩ (.slice a1 lw c1)).cell? ⟨w.heap.size + 1, 2, none⟩ = some (.slice none 0 0) := set_keep (by simp) c_r2
       replace f_r2 : (w1.setCell ⟨w.heap.size, 1, none⟩ (.slice a1 lw c1)).frozen? ⟨w.heap.size + 1, 2, none⟩ = false := by rw [World.frozen?_setCell]; exact f_r2
       replace c_r3 : (w1.setCell ⟨w.heap.size, 1, none⟩ (.slice a1 lw c1)).cell? ⟨w.heap.size + 1, 3, none⟩ = some (.slice none 0 0) := set_keep (by simp) c_r3
       replace f_r3 : (w1.setCell ⟨w.heap.size, 1, none⟩ (.slice a1 lw c1)).frozen? ⟨w.heap.size + 1, 3, none⟩ = false := by rw [World.frozen?_setCell]; exact f_r3
       replace c_r4 : (w1.setCell ⟨w.heap.size, 1, none⟩ (.slice a1 lw c1)).cell? ⟨w.heap.size + 1, 4, none⟩ = some (.slice none 0 0) := set_keep (by simp) c_r4
       replace f_r4 : (w1.setCell ⟨w.heap.size, 1, none⟩ (.slice a1 lw c1)).frozen? ⟨w.heap.size + 1, 4, none⟩ = false := by rw [World.frozen?_setCell]; exact f_r4
       replace c_r5 : (w1.setCell ⟨w.heap.size, 1, none⟩ (.slice a1 lw c1)).cell? ⟨w.heap.size + 1, 5, none⟩ = some (.int .u64 0) := set_keep (by simp) c_r5
       replace f_r5 : (w1.setCell ⟨w.heap.size, 1, none⟩ (.slice a1 lw c1)).frozen? ⟨w.heap.size + 1, 5, none⟩ = false := by rw [World.frozen?_setCell]; exact f_r5
       have HQ1 : Hid (∀ q, q ≠ w.heap.size → (w1.setCell ⟨w.heap.size, 1, none⟩ (.slice a1 lw c1)).heap[q]? = w1.heap[q]?) := Lib.hid fun q hq => heap_setCell_ne _ _ _ hq
       generalize (w1.setCell ⟨w.heap.size, 1, none⟩ (.slice a1 lw c1)) = W1 at *
       rw [hs1] at ho2 hg2
       have hb2 : Below W1.heap.size W1 w2 := ((Below.refl _ W1).alloc (Nat.le_refl _) _).grown hg2 (by simp) (by intro k hk; simp [Value.ownBlock] at hk; omega)
       obtain ⟨a2, c2, rfl, -⟩ := owns_news ho2
       have hzz2 := hb2.size
       replace c_t0 : w2.cell? ⟨w.heap.size, 0, none⟩ = some (.int .i64 seg) := (hb2.cell (p := ⟨w.heap.size, 0, none⟩) (by dsimp only; omega)).trans c_t0
       replace f_t0 : w2.frozen? ⟨w.heap.size, 0, none⟩ = false := (hb2.frozen (p := ⟨w.heap.size, 0, none⟩) (by dsimp only; omega)).trans f_t0
       replace c_t1 : w2.cell? ⟨w.heap.size, 1, none⟩ = some (.slice a1 lw c1) := (hb2.cell (p := ⟨w.heap.size, 1, none⟩) (by dsimp only; omega)).trans c_t1
       replace f_t1 : w2.frozen? ⟨w.heap.size, 1, none⟩ = false := (hb2.frozen (p := ⟨w.heap.size, 1, none⟩) (by dsimp only; omega)).trans f_t1
       replace c_t2 : w2.cell? ⟨w.heap.size, 2, none⟩ = some (.slice ka lk kc) := (hb2.cell (p := ⟨w.heap.size, 2, none⟩) (by dsimp only; omega)).trans c_t2
       replace f_t2 : w2.frozen? ⟨w.heap.size, 2, none⟩ = false := (hb2.frozen (p := ⟨w.heap.size, 2, none⟩) (by dsimp only; omega)).trans f_t2
       replace c_t3 : w2.cell? ⟨w.heap.size, 3, none⟩ = some (.slice va lv vc) := (hb2.cell (p := ⟨w.heap.size, 3, none⟩) (by dsimp only; omega)).trans c_t3
       replace f_t3 : w2.frozen? ⟨w.heap.size, 3, none⟩ = false := (hb2.frozen (p := ⟨w.heap.size, 3, none⟩) (by dsimp only; omega)).trans f_t3
       replace c_t4 : w2.cell? ⟨w.heap.size, 4, none⟩ = some (.slice ca lc cc) := (hb2.cell (p := ⟨w.heap.size, 4, none⟩) (by dsimp only; omega)).trans c_t4
       replace f_t4 : w2.frozen? ⟨w.heap.size, 4, none⟩ = false := (hb2.frozen (p := ⟨w.heap.size, 4, none⟩) (by dsimp only; omega)).trans f_t4
       replace c_t5 : w2.cell? ⟨w.heap.size, 5, none⟩ = some (.int .u64 laid) := (hb2.cell (p := ⟨w.heap.size, 5, none⟩) (by dsimp only; omega)).trans c_t5
       replace f_t5 : w2.frozen? ⟨w.heap.size, 5, none⟩ = false := (hb2.frozen (p := ⟨w.heap.size, 5, none⟩) (by dsimp only; omega)).trans f_t5
       replace c_r0 : w2.cell? ⟨w.heap.size + 1, 0, none⟩ = some (.int .i64 0) := (hb2.cell (p := ⟨w.heap.size + 1, 0, none⟩) (by dsimp only; omega)).trans c_r0
       replace f_r0 : w2.frozen? ⟨w.heap.size + 1, 0, none⟩ = false := (hb2.frozen (p := ⟨w.heap.size + 1, 0, none⟩) (by dsimp only; omega)).trans f_r0
       replace c_r1 : w2.cell? ⟨w.heap.size + 1, 1, none⟩ = some (.slice none 0 0) := (hb2.cell (p := ⟨w.heap.size + 1, 1, none⟩) (by dsimp only; omega)).trans c_r1
       replace f_r1 : w2.frozen? ⟨w.heap.size + 1, 1, none⟩ = false := (hb2.frozen (p := ⟨w.heap.size + 1, 1, none⟩) (by dsimp only; omega)).trans f_r1
       replace c_r2 : w2.cell? ⟨w.heap.size + 1, 2, none⟩ = some (.slice none 0 0) := (hb2.cell (p := ⟨w.heap.size + 1, 2, none⟩) (by dsimp only; omega)).trans c_r2
       replace f_r2 : w2.frozen? ⟨w.heap.size + 1, 2, none⟩ = false := (hb2.frozen (p := ⟨w.heap.size + 1, 2, none⟩) (by dsimp only; omega)).trans f_r2
       replace c_r3 : w2.cell? ⟨w.heap.size + 1, 3, none⟩ = some (.slice none 0 0) := (hb2.cell (p := ⟨w.heap.size + 1, 3, none⟩) (by dsimp only; omega)).trans c_r3
       replace f_r3 : w2.frozen? ⟨w.heap.size + 1, 3, none⟩ = false := (hb2.frozen (p := ⟨w.heap.size + 1, 3, none⟩) (by dsimp only; omega)).trans f_r3
       replace c_r4 : w2.cell? ⟨w.heap.size + 1, 4, none⟩ = some (.slice none 0 0) := (hb2.cell (p := ⟨w.heap.size + 1, 4, none⟩) (by dsimp only; omega)).trans c_r4
       replace f_r4 : w2.frozen? ⟨w.heap.size + 1, 4, none⟩ = false := (hb2.frozen (p := ⟨w.heap.size + 1, 4, none⟩) (by dsimp only; omega)).trans f_r4
       replace c_r5 : w2.cell? ⟨w.heap.size + 1, 5, none⟩ = some (.int .u64 0) := (hb2.cell (p := ⟨w.heap.size + 1, 5, none⟩) (by dsimp only; omega)).trans c_r5
       replace f_r5 : w2.frozen? ⟨w.heap.size + 1, 5, none⟩ = false := (hb2.frozen (p := ⟨w.heap.size + 1, 5, none⟩) (by dsimp only; omega)).trans f_r5
       have HC2 := Lib.hid (below_via hb2 HB1.out (by omega))
       replace HP1 := Lib.hid (owns_below (owns_heap HP1.out fun j hj => HQ1.out j (by have := (HP1.out.lt j hj).1; omega)) hb2)
       have z_t2 : w.heap.size < w2.heap.size := by omega
       have z_r2 : w.heap.size + 1 < w2.heap.size := by omega
       have HP2 := Lib.hid ho2
       have HBK2 := Lib.hid (fun p hp => (ho2.lt p hp).2)
       have HD2 := Lib.hid hb2
       clear ho2 hg2 hb2)
    | (at_builtin; refine wpl_append (.tmp 13) (.tmp 15) 25 2 (.int .i64 0) 1 8 Tryz.underlying25 info4_int64 rfl (by decide) (by decide) w2.heap.size _ 0 [] va lv vc (vs.map (Value.int .i64)) (made_at (w2.setCell ⟨w.heap.size, 2, none⟩ (.slice a2 lk c2)) w2.heap.size 2 (by simp)) (by rw [List.length_map, HL3.out]; omega) HZ3.out (fun ad h j u hj => Lib.cell?_alloc_some _ (row_news' (HR3.out.below (HC2.out.setCell (by dsimp only; omega) _)) ad h j u hj)) (numCells _) (by omega) (by simp) rfl rfl rfl rfl ?_; intro v3 w3 ho3 hg3 _
       rw [Nat.zero_add, List.nil_append] at ho3
       have HB2 : Hid (Below w.heap.size w (w2.setCell ⟨w.heap.size, 2, none⟩ (.slice a2 lk c2))) := Lib.hid (HC2.out.setCell (by dsimp only; omega) _)
       have hs2 : w2.heap.size = (w2.setCell ⟨w.heap.size, 2, none⟩ (.slice a2 lk c2)).heap.size := by simp
       replace c_t0 : (w2.setCell ⟨w.heap.size, 2, none⟩ (.slice a2 lk c2)).cell? ⟨w.heap.size, 0, none⟩ = some (.int .i64 seg) := set_keep (by simp) c_t0
       replace f_t0 : (w2.setCell ⟨w.heap.size, 2, none⟩ (.slice a2 lk c2)).frozen? ⟨w.heap.size, 0, none⟩ = false := by rw [World.frozen?_setCell]; exact f_t0
       replace c_t1 : (w2.setCell ⟨w.heap.size, 2, none⟩ (.slice a2 lk c2)).cell? ⟨w.heap.size, 1, none⟩ = some (.slice a1 lw c1) := set_keep (by simp) c_t1
       replace f_t1 : (w2.setCell ⟨w.heap.size, 2, none⟩ (.slice a2 lk c2)).frozen? ⟨w.heap.size, 1, none⟩ = false := by rw [World.frozen?_setCell]; exact f_t1
       replace c_t2 : (w2.setCell ⟨w.heap.size, 2, none⟩ (.slice a2 lk c2)).cell? ⟨w.heap.size, 2, none⟩ = some (.slice a2 lk c2) := World.cell?_setCell_same _ _ _ c_t2
       replace f_t2 : (w2.setCell ⟨w.heap.size, 2, none⟩ (.slice a2 lk c2)).frozen? ⟨w.heap.size, 2, none⟩ = false := by rw [World.frozen?_setCell]; exact f_t2
       replace c_t3 : (w2.setCell ⟨w.heap.size, 2, none⟩ (.slice a2 lk c2)).cell? ⟨w.heap.size, 3, none⟩ = some (.slice va lv vc) := set_keep (by simp) c_t3
       replace f_t3 : (w2.setCell ⟨w.heap.size, 2, none⟩ (.slice a2 lk c2)).frozen? ⟨w.heap.size, 3, none⟩ = false := by rw [World.frozen?_setCell]; exact f_t3
       replace c_t4 : (w2.setCell ⟨w.heap.size, 2, none⟩ (.slice a2 lk c2)).cell? ⟨w.heap.size, 4, none⟩ = some (.slice ca lc cc) := set_keep (by simp) c_t4
       replace f_t4 : (w2.setCell ⟨w.heap.size, 2, none⟩ (.slice a2 lk c2)).frozen? ⟨w.heap.size, 4, none⟩ = false := by rw [World.frozen?_setCell]; exact f_t4
       replace c_t5 : (w2.setCell ⟨w.heap.size, 2, none⟩ (.slice a2 lk c2)).cell? ⟨w.heap.size, 5, none⟩ = some (.int .u64 laid) := set_keep (by simp) c_t5
       replace f_t5 : (w2.setCell ⟨w.heap.size, 2, none⟩ (.slice a2 lk c2)).frozen? ⟨w.heap.size, 5, none⟩ = false := by rw [World.frozen?_setCell]; exact f_t5
       replace c_r0 : (w2.setCell ⟨w.heap.size, 2, none⟩ (.slice a2 lk c2)).cell? ⟨w.heap.size + 1, 0, none⟩ = some (.int .i64 0) := set_keep (by simp) c_r0
       replace f_r0 : (w2.setCell ⟨w.heap.size, 2, none⟩ (.slice a2 lk c2)).frozen? ⟨w.heap.size + 1, 0, none⟩ = false := by rw [World.frozen?_setCell]; exact f_r0
       replace c_r1 : (w2.setCell ⟨w.heap.size, 2, none⟩ (.slice a2 lk c2)).cell? ⟨w.heap.size + 1, 1, none⟩ = some (.slice none 0 0) := set_keep (by simp) c_r1
       replace f_r1 : (w2.setCell ⟨w.heap.size, 2, none⟩ (.slice a2 lk c2)).frozen? ⟨w.heap.size + 1, 1, none⟩ = false := by rw [World.frozen?_setCell]; exact f_r1
       replace c_r2 : (w2.setCell ⟨w.heap.size, 2, none⟩ (.slice a2 lk c2)).cell? ⟨w.heap.size + 1, 2, none⟩ = some (.slice none 0 0) := set_keep (by simp) c_r2
       replace f_r2 : (w2.setCell ⟨w.heap.size, 2, none⟩ (.slice a2 lk c2)).frozen? ⟨w.heap.size + 1, 2, none⟩ = false := by rw [World.frozen?_setCell]; exact f_r2
       replace c_r3 : (w2.setCell ⟨w.heap.size, 2, none⟩ (.slice a2 lk c2)).cell? ⟨w.heap.size + 1, 3, none⟩ = some (.slice none 0 0) := set_keep (by simp) c_r3
       replace f_r3 : (w2.setCell ⟨w.heap.size, 2, none⟩ (.slice a2 lk c2)).frozen? ⟨w.heap.size + 1, 3, none⟩ = false := by rw [World.frozen?_setCell]; exact f_r3
       replace c_r4 : (w2.setCell ⟨w.heap.size, 2, none⟩ (.slice a2 lk c2)).cell? ⟨w.heap.size + 1, 4, none⟩ = some (.slice none 0 0) := set_keep (by simp) c_r4
       replace f_r4 : (w2.setCell ⟨w.heap.size, 2, none⟩ (.slice a2 lk c2)).frozen? ⟨w.heap.size + 1, 4, none⟩ = false := by rw [World.frozen?_setCell]; exact f_r4
       replace c_r5 : (w2.setCell ⟨w.heap.size, 2, none⟩ (.slice a2 lk c2)).cell? ⟨w.heap.size + 1, 5, none⟩ = some (.int .u64 0) := set_keep (by simp) c_r5
       replace f_r5 : (w2.setCell ⟨w.heap.size, 2, none⟩ (.slice a2 lk c2)).frozen? ⟨w.heap.size + 1, 5, none⟩ = false := by rw [World.frozen?_setCell]; exact f_r5
       have HQ2 : Hid (∀ q, q ≠ w.heap.size → (w2.setCell ⟨w.heap.size, 2, none⟩ (.slice a2 lk c2)).heap[q]? = w2.heap[q]?) := Lib.hid fun q hq => heap_setCell_ne _ _ _ hq
       generalize (w2.setCell ⟨w.heap.size, 2, none⟩ (.slice a2 lk c2)) = W2 at *
       rw [hs2] at ho3 hg3
       have hb3 : Below W2.heap.size W2 w3 := ((Below.refl _ W2).alloc (Nat.le_refl _) _).grown hg3 (by simp) (by intro k hk; simp [Value.ownBlock] at hk; omega)
       obtain ⟨a3, c3, rfl, -⟩ := owns_news ho3
       have hzz3 := hb3.size
       replace c_t0 : w3.cell? ⟨w.heap.size, 0, none⟩ = some (.int .i64 seg) := (hb3.cell (p := ⟨w.heap.size, 0, none⟩) (by dsimp only; omega)).trans c_t0
       replace f_t0 : w3.frozen? ⟨w.heap.size, 0, none⟩ = false := (hb3.frozen (p := ⟨w.heap.size, 0, none⟩) (by dsimp only; omega)).trans f_t0
       replace c_t1 : w3.cell? ⟨w.heap.size, 1, none⟩ = some (.slice a1 lw c1) := (hb3.cell (p := ⟨w.heap.size, 1, none⟩) (by dsimp only; omega)).trans c_t1
       replace f_t1 : w3.frozen? ⟨w.heap.size, 1, none⟩ = false := (hb3.frozen (p := ⟨w.heap.size, 1, none⟩) (by dsimp only; omega)).trans f_t1
       replace c_t2 : w3.cell? ⟨w.heap.size, 2, none⟩ = some (.slice a2 lk c2) := (hb3.cell (p := ⟨w.heap.size, 2, none⟩) (by dsimp only; omega)).trans c_t2
       replace f_t2 : w3.frozen? ⟨w.heap.size, 2, none⟩ = false := (hb3.frozen (p := ⟨w.heap.size, 2, none⟩) (by dsimp only; omega)).trans f_t2
       replace c_t3 : w3.cell? ⟨w.heap.size, 3, none⟩ = some (.slice va lv vc) := (hb3.cell (p := ⟨w.heap.size, 3, none⟩) (by dsimp only; omega)).trans c_t3
       replace f_t3 : w3.frozen? ⟨w.heap.size, 3, none⟩ = false := (hb3.frozen (p := ⟨w.heap.size, 3, none⟩) (by dsimp only; omega)).trans f_t3
       replace c_t4 : w3.cell? ⟨w.heap.size, 4, none⟩ = some (.slice ca lc cc) := (hb3.cell (p := ⟨w.heap.size, 4, none⟩) (by dsimp only; omega)).trans c_t4
       replace f_t4 : w3.frozen? ⟨w.heap.size, 4, none⟩ = false := (hb3.frozen (p := ⟨w.heap.size, 4, none⟩) (by dsimp only; omega)).trans f_t4
       replace c_t5 : w3.cell? ⟨w.heap.size, 5, none⟩ = some (.int .u64 laid) := (hb3.cell (p := ⟨w.heap.size, 5, none⟩) (by dsimp only; omega)).trans c_t5
       replace f_t5 : w3.frozen? ⟨w.heap.size, 5, none⟩ = false := (hb3.frozen (p := ⟨w.heap.size, 5, none⟩) (by dsimp only; omega)).trans f_t5
       replace c_r0 : w3.cell? ⟨w.heap.size + 1, 0, none⟩ = some (.int .i64 0) := (hb3.cell (p := ⟨w.heap.size + 1, 0, none⟩) (by dsimp only; omega)).trans c_r0
       replace f_r0 : w3.frozen? ⟨w.heap.size + 1, 0, none⟩ = false := (hb3.frozen (p := ⟨w.heap.size + 1, 0, none⟩) (by dsimp only; omega)).trans f_r0
       replace c_r1 : w3.cell? ⟨w.heap.size + 1, 1, none⟩ = some (.slice none 0 0) := (hb3.cell (p := ⟨w.heap.size + 1, 1, none⟩) (by dsimp only; omega)).trans c_r1
       replace f_r1 : w3.frozen? ⟨w.heap.size + 1, 1, none⟩ = false := (hb3.frozen (p := ⟨w.heap.size + 1, 1, none⟩) (by dsimp only; omega)).trans f_r1
       replace c_r2 : w3.cell? ⟨w.heap.size + 1, 2, none⟩ = some (.slice none 0 0) := (hb3.cell (p := ⟨w.heap.size + 1, 2, none⟩) (by dsimp only; omega)).trans c_r2
       replace f_r2 : w3.frozen? ⟨w.heap.size + 1, 2, none⟩ = false := (hb3.frozen (p := ⟨w.heap.size + 1, 2, none⟩) (by dsimp only; omega)).trans f_r2
       replace c_r3 : w3.cell? ⟨w.heap.size + 1, 3, none⟩ = some (.slice none 0 0) := (hb3.cell (p := ⟨w.heap.size + 1, 3, none⟩) (by dsimp only; omega)).trans c_r3
       replace f_r3 : w3.frozen? ⟨w.heap.size + 1, 3, none⟩ = false := (hb3.frozen (p := ⟨w.heap.size + 1, 3, none⟩) (by dsimp only; omega)).trans f_r3
       replace c_r4 : w3.cell? ⟨w.heap.size + 1, 4, none⟩ = some (.slice none 0 0) := (hb3.cell (p := ⟨w.heap.size + 1, 4, none⟩) (by dsimp only; omega)).trans c_r4
       replace f_r4 : w3.frozen? ⟨w.heap.size + 1, 4, none⟩ = false := (hb3.frozen (p := ⟨w.heap.size + 1, 4, none⟩) (by dsimp only; omega)).trans f_r4
       replace c_r5 : w3.cell? ⟨w.heap.size + 1, 5, none⟩ = some (.int .u64 0) := (hb3.cell (p := ⟨w.heap.size + 1, 5, none⟩) (by dsimp only; omega)).trans c_r5
       replace f_r5 : w3.frozen? ⟨w.heap.size + 1, 5, none⟩ = false := (hb3.frozen (p := ⟨w.heap.size + 1, 5, none⟩) (by dsimp only; omega)).trans f_r5
       have HC3 := Lib.hid (below_via hb3 HB2.out (by omega))
       replace HP1 := Lib.hid (owns_below (owns_heap HP1.out fun j hj => HQ2.out j (by have := (HP1.out.lt j hj).1; omega)) hb3)
       replace HP2 := Lib.hid (owns_below (owns_heap HP2.out fun j hj => HQ2.out j (by have := (HP2.out.lt j hj).1; omega)) hb3)
       have z_t3 : w.heap.size < w3.heap.size := by omega
       have z_r3 : w.heap.size + 1 < w3.heap.size := by omega
       have HP3 := Lib.hid ho3
       have HD3 := Lib.hid hb3
       clear ho3 hg3 hb3)
    | (at_builtin; refine wpl_append (.tmp 18) (.tmp 20) 26 3 (.int .i64 0) 1 8 Tryz.underlying26 info4_int rfl (by decide) (by decide) w3.heap.size _ 0 [] ca lc cc (cs.map (Value.int .i64)) (made_at (w3.setCell ⟨w.heap.size, 3, none⟩ (.slice a3 lv c3)) w3.heap.size 3 (by simp)) (by rw [List.length_map, HL4.out]; omega) HZ4.out (fun ad h j u hj => Lib.cell?_alloc_some _ (row_news' (HR4.out.below (HC3.out.setCell (by dsimp only; omega) _)) ad h j u hj)) (numCells _) (by omega) (by simp) rfl rfl rfl rfl ?_; intro v4 w4 ho4 hg4 _
       rw [Nat.zero_add, List.nil_append] at ho4
       have HB3 : Hid (Below w.heap.size w (w3.setCell ⟨w.heap.size, 3, none⟩ (.slice a3 lv c3))) := Lib.hid (HC3.out.setCell (by dsimp only; omega) _)
       have hs3 : w3.heap.size = (w3.setCell ⟨w.heap.size, 3, none⟩ (.slice a3 lv c3)).heap.size := by simp
       replace c_t0 : (w3.setCell ⟨w.heap.size, 3, none⟩ (.slice a3 lv c3)).cell? ⟨w.heap.size, 0, none⟩ = some (.int .i64 seg) := set_keep (by simp) c_t0
       replace f_t0 : (w3.setCell ⟨w.heap.size, 3, none⟩ (.slice a3 lv c3)).frozen? ⟨w.heap.size, 0, none⟩ = false := by rw [World.frozen?_setCell]; exact f_t0
       replace c_t1 : (w3.setCell ⟨w.heap.size, 3, none⟩ (.slice a3 lv c3)).cell? ⟨w.heap.size, 1, none⟩ = some (.slice a1 lw c1) := set_keep (by simp) c_t1
       replace f_t1 : (w3.setCell ⟨w.heap.size, 3, none⟩ (.slice a3 lv c3)).frozen? ⟨w.heap.size, 1, none⟩ = false := by rw [World.frozen?_setCell]; exact f_t1
       replace c_t2 : (w3.setCell ⟨w.heap.size, 3, none⟩ (.slice a3 lv c3)).cell? ⟨w.heap.size, 2, none⟩ = some (.slice a2 lk c2) := set_keep (by simp) c_t2
       replace f_t2 : (w3.setCell ⟨w.heap.size, 3, none⟩ (.slice a3 lv c3)).frozen? ⟨w.heap.size, 2, none⟩ = false := by rw [World.frozen?_setCell]; exact f_t2
       replace c_t3 : (w3.setCell ⟨w.heap.size, 3, none⟩ (.slice a3 lv c3)).cell? ⟨w.heap.size, 3, none⟩ = some (.slice a3 lv c3) := World.cell?_setCell_same _ _ _ c_t3
       replace f_t3 : (w3.setCell ⟨w.heap.size, 3, none⟩ (.slice a3 lv c3)).frozen? ⟨w.heap.size, 3, none⟩ = false := by rw [World.frozen?_setCell]; exact f_t3
       replace c_t4 : (w3.setCell ⟨w.heap.size, 3, none⟩ (.slice a3 lv c3)).cell? ⟨w.heap.size, 4, none⟩ = some (.slice ca lc cc) := set_keep (by simp) c_t4
       replace f_t4 : (w3.setCell ⟨w.heap.size, 3, none⟩ (.slice a3 lv c3)).frozen? ⟨w.heap.size, 4, none⟩ = false := by rw [World.frozen?_setCell]; exact f_t4
       replace c_t5 : (w3.setCell ⟨w.heap.size, 3, none⟩ (.slice a3 lv c3)).cell? ⟨w.heap.size, 5, none⟩ = some (.int .u64 laid) := set_keep (by simp) c_t5
       replace f_t5 : (w3.setCell ⟨w.heap.size, 3, none⟩ (.slice a3 lv c3)).frozen? ⟨w.heap.size, 5, none⟩ = false := by rw [World.frozen?_setCell]; exact f_t5
       replace c_r0 : (w3.setCell ⟨w.heap.size, 3, none⟩ (.slice a3 lv c3)).cell? ⟨w.heap.size + 1, 0, none⟩ = some (.int .i64 0) := set_keep (by simp) c_r0
       replace f_r0 : (w3.setCell ⟨w.heap.size, 3, none⟩ (.slice a3 lv c3)).frozen? ⟨w.heap.size + 1, 0, none⟩ = false := by rw [World.frozen?_setCell]; exact f_r0
       replace c_r1 : (w3.setCell ⟨w.heap.size, 3, none⟩ (.slice a3 lv c3)).cell? ⟨w.heap.size + 1, 1, none⟩ = some (.slice none 0 0) := set_keep (by simp) c_r1
       replace f_r1 : (w3.setCell ⟨w.heap.size, 3, none⟩ (.slice a3 lv c3)).frozen? ⟨w.heap.size + 1, 1, none⟩ = false := by rw [World.frozen?_setCell]; exact f_r1
       replace c_r2 : (w3.setCell ⟨w.heap.size, 3, none⟩ (.slice a3 lv c3)).cell? ⟨w.heap.size + 1, 2, none⟩ = some (.slice none 0 0) := set_keep (by simp) c_r2
       replace f_r2 : (w3.setCell ⟨w.heap.size, 3, none⟩ (.slice a3 lv c3)).frozen? ⟨w.heap.size + 1, 2, none⟩ = false := by rw [World.frozen?_setCell]; exact f_r2
       replace c_r3 : (w3.setCell ⟨w.heap.size, 3, none⟩ (.slice a3 lv c3)).cell? ⟨w.heap.size + 1, 3, none⟩ = some (.slice none 0 0) := set_keep (by simp) c_r3
       replace f_r3 : (w3.setCell ⟨w.heap.size, 3, none⟩ (.slice a3 lv c3)).frozen? ⟨w.heap.size + 1, 3, none⟩ = false := by rw [World.frozen?_setCell]; exact f_r3
       replace c_r4 : (w3.setCell ⟨w.heap.size, 3, none⟩ (.slice a3 lv c3)).cell? ⟨w.heap.size + 1, 4, none⟩ = some (.slice none 0 0) := set_keep (by simp) c_r4
       replace f_r4 : (w3.setCell ⟨w.heap.size, 3, none⟩ (.slice a3 lv c3)).frozen? ⟨w.heap.size + 1, 4, none⟩ = false := by rw [World.frozen?_setCell]; exact f_r4
       replace c_r5 : (w3.setCell ⟨w.heap.size, 3, none⟩ (.slice a3 lv c3)).cell? ⟨w.heap.size + 1, 5, none⟩ = some (.int .u64 0) := set_keep (by simp) c_r5
       replace f_r5 : (w3.setCell ⟨w.heap.size, 3, none⟩ (.slice a3 lv c3)).frozen? ⟨w.heap.size + 1, 5, none⟩ = false := by rw [World.frozen?_setCell]; exact f_r5
       have HQ3 : Hid (∀ q, q ≠ w.heap.size → (w3.setCell ⟨w.heap.size, 3, none⟩ (.slice a3 lv c3)).heap[q]? = w3.heap[q]?) := Lib.hid fun q hq => heap_setCell_ne _ _ _ hq
       generalize (w3.setCell ⟨w.heap.size, 3, none⟩ (.slice a3 lv c3)) = W3 at *
       rw [hs3] at ho4 hg4
       have hb4 : Below W3.heap.size W3 w4 := ((Below.refl _ W3).alloc (Nat.le_refl _) _).grown hg4 (by simp) (by intro k hk; simp [Value.ownBlock] at hk; omega)
       obtain ⟨a4, c4, rfl, -⟩ := owns_news ho4
       have hzz4 := hb4.size
       replace c_t0 : w4.cell? ⟨w.heap.size, 0, none⟩ = some (.int .i64 seg) := (hb4.cell (p := ⟨w.heap.size, 0, none⟩) (by dsimp only; omega)).trans c_t0
       replace f_t0 : w4.frozen? ⟨w.heap.size, 0, none⟩ = false := (hb4.frozen (p := ⟨w.heap.size, 0, none⟩) (by dsimp only; omega)).trans f_t0
       replace c_t1 : w4.cell? ⟨w.heap.size, 1, none⟩ = some (.slice a1 lw c1) := (hb4.cell (p := ⟨w.heap.size, 1, none⟩) (by dsimp only; omega)).trans c_t1
       replace f_t1 : w4.frozen? ⟨w.heap.size, 1, none⟩ = false := (hb4.frozen (p := ⟨w.heap.size, 1, none⟩) (by dsimp only; omega)).trans f_t1
       replace c_t2 : w4.cell? ⟨w.heap.size, 2, none⟩ = some (.slice a2 lk c2) := (hb4.cell (p := ⟨w.heap.size, 2, none⟩) (by dsimp only; omega)).trans c_t2
       replace f_t2 : w4.frozen? ⟨w.heap.size, 2, none⟩ = false := (hb4.frozen (p := ⟨w.heap.size, 2, none⟩) (by dsimp only; omega)).trans f_t2
       replace c_t3 : w4.cell? ⟨w.heap.size, 3, none⟩ = some (.slice a3 lv c3) := (hb4.cell (p := ⟨w.heap.size, 3, none⟩) (by dsimp only; omega)).trans c_t3
       replace f_t3 : w4.frozen? ⟨w.heap.size, 3, none⟩ = false := (hb4.frozen (p := ⟨w.heap.size, 3, none⟩) (by dsimp only; omega)).trans f_t3
       replace c_t4 : w4.cell? ⟨w.heap.size, 4, none⟩ = some (.slice ca lc cc) := (hb4.cell (p := ⟨w.heap.size, 4, none⟩) (by dsimp only; omega)).trans c_t4
       replace f_t4 : w4.frozen? ⟨w.heap.size, 4, none⟩ = false := (hb4.frozen (p := ⟨w.heap.size, 4, none⟩) (by dsimp only; omega)).trans f_t4
       replace c_t5 : w4.cell? ⟨w.heap.size, 5, none⟩ = some (.int .u64 laid) := (hb4.cell (p := ⟨w.heap.size, 5, none⟩) (by dsimp only; omega)).trans c_t5
       replace f_t5 : w4.frozen? ⟨w.heap.size, 5, none⟩ = false := (hb4.frozen (p := ⟨w.heap.size, 5, none⟩) (by dsimp only; omega)).trans f_t5
       replace c_r0 : w4.cell? ⟨w.heap.size + 1, 0, none⟩ = some (.int .i64 0) := (hb4.cell (p := ⟨w.heap.size + 1, 0, none⟩) (by dsimp only; omega)).trans c_r0
       replace f_r0 : w4.frozen? ⟨w.heap.size + 1, 0, none⟩ = false := (hb4.frozen (p := ⟨w.heap.size + 1, 0, none⟩) (by dsimp only; omega)).trans f_r0
       replace c_r1 : w4.cell? ⟨w.heap.size + 1, 1, none⟩ = some (.slice none 0 0) := (hb4.cell (p := ⟨w.heap.size + 1, 1, none⟩) (by dsimp only; omega)).trans c_r1
       replace f_r1 : w4.frozen? ⟨w.heap.size + 1, 1, none⟩ = false := (hb4.frozen (p := ⟨w.heap.size + 1, 1, none⟩) (by dsimp only; omega)).trans f_r1
       replace c_r2 : w4.cell? ⟨w.heap.size + 1, 2, none⟩ = some (.slice none 0 0) := (hb4.cell (p := ⟨w.heap.size + 1, 2, none⟩) (by dsimp only; omega)).trans c_r2
       replace f_r2 : w4.frozen? ⟨w.heap.size + 1, 2, none⟩ = false := (hb4.frozen (p := ⟨w.heap.size + 1, 2, none⟩) (by dsimp only; omega)).trans f_r2
       replace c_r3 : w4.cell? ⟨w.heap.size + 1, 3, none⟩ = some (.slice none 0 0) := (hb4.cell (p := ⟨w.heap.size + 1, 3, none⟩) (by dsimp only; omega)).trans c_r3
       replace f_r3 : w4.frozen? ⟨w.heap.size + 1, 3, none⟩ = false := (hb4.frozen (p := ⟨w.heap.size + 1, 3, none⟩) (by dsimp only; omega)).trans f_r3
       replace c_r4 : w4.cell? ⟨w.heap.size + 1, 4, none⟩ = some (.slice none 0 0) := (hb4.cell (p := ⟨w.heap.size + 1, 4, none⟩) (by dsimp only; omega)).trans c_r4
       replace f_r4 : w4.frozen? ⟨w.heap.size + 1, 4, none⟩ = false := (hb4.frozen (p := ⟨w.heap.size + 1, 4, none⟩) (by dsimp only; omega)).trans f_r4
       replace c_r5 : w4.cell? ⟨w.heap.size + 1, 5, none⟩ = some (.int .u64 0) := (hb4.cell (p := ⟨w.heap.size + 1, 5, none⟩) (by dsimp only; omega)).trans c_r5
       replace f_r5 : w4.frozen? ⟨w.heap.size + 1, 5, none⟩ = false := (hb4.frozen (p := ⟨w.heap.size + 1, 5, none⟩) (by dsimp only; omega)).trans f_r5
       have HC4 := Lib.hid (below_via hb4 HB3.out (by omega))
       replace HP1 := Lib.hid (owns_below (owns_heap HP1.out fun j hj => HQ3.out j (by have := (HP1.out.lt j hj).1; omega)) hb4)
       replace HP2 := Lib.hid (owns_below (owns_heap HP2.out fun j hj => HQ3.out j (by have := (HP2.out.lt j hj).1; omega)) hb4)
       replace HP3 := Lib.hid (owns_below (owns_heap HP3.out fun j hj => HQ3.out j (by have := (HP3.out.lt j hj).1; omega)) hb4)
       have z_t4 : w.heap.size < w4.heap.size := by omega
       have z_r4 : w.heap.size + 1 < w4.heap.size := by omega
       have HP4 := Lib.hid ho4
       have HD4 := Lib.hid hb4
       clear ho4 hg4 hb4))
  have hb5 : Below w.heap.size w (w4.setCell ⟨w.heap.size, 4, none⟩ (.slice a4 lc c4)) := HC4.out.setCell (by dsimp only; omega) _
  have k0 := set_keep (v := .slice a4 lc c4) (b := ⟨w.heap.size, 4, none⟩) (by simp) c_r0
  have k1 := set_keep (v := .slice a4 lc c4) (b := ⟨w.heap.size, 4, none⟩) (by simp) c_r1
  have k2 := set_keep (v := .slice a4 lc c4) (b := ⟨w.heap.size, 4, none⟩) (by simp) c_r2
  have k3 := set_keep (v := .slice a4 lc c4) (b := ⟨w.heap.size, 4, none⟩) (by simp) c_r3
  have k4 := set_keep (v := .slice a4 lc c4) (b := ⟨w.heap.size, 4, none⟩) (by simp) c_r4
  have k5 := set_keep (v := .slice a4 lc c4) (b := ⟨w.heap.size, 4, none⟩) (by simp) c_r5
  have HQ : Hid (∀ q, w.heap.size + 2 ≤ q → (((((((w4.setCell ⟨w.heap.size, 4, none⟩ (.slice a4 lc c4)).setCell ⟨w.heap.size + 1, 0, none⟩ (.int .i64 seg)).setCell ⟨w.heap.size + 1, 1, none⟩ (.slice a1 lw c1)).setCell ⟨w.heap.size + 1, 2, none⟩ (.slice a2 lk c2)).setCell ⟨w.heap.size + 1, 3, none⟩ (.slice a3 lv c3)).setCell ⟨w.heap.size + 1, 4, none⟩ (.slice a4 lc c4)).setCell ⟨w.heap.size + 1, 5, none⟩ (.int .u64 laid)).heap[q]? = w4.heap[q]?) := Lib.hid fun q hq => by
    rw [heap_setCell_ne _ _ _ (by dsimp only; omega), heap_setCell_ne _ _ _ (by dsimp only; omega), heap_setCell_ne _ _ _ (by dsimp only; omega), heap_setCell_ne _ _ _ (by dsimp only; omega), heap_setCell_ne _ _ _ (by dsimp only; omega), heap_setCell_ne _ _ _ (by dsimp only; omega), heap_setCell_ne _ _ _ (by dsimp only; omega)]
  refine bodyPost_ret (results_c rfl rfl (run_loadVar_many _ Tryz.underlying29 rfl (by kernel_rfl) (six_set k0 k1 k2 k3 k4 k5))) rfl ⟨_, _, _, _, rfl, ?_, ?_, ?_, ?_, ?_, ?_⟩
  · rw [HL1.out]; exact owns_base (owns_heap HP1.out fun j hj => HQ.out j (by have := (HP1.out.lt j hj).1; omega)) (by omega)
  · rw [HL2.out]; exact owns_base (owns_heap HP2.out fun j hj => HQ.out j (by have := (HP2.out.lt j hj).1; omega)) (by omega)
  · rw [HL3.out]; exact owns_base (owns_heap HP3.out fun j hj => HQ.out j (by have := (HP3.out.lt j hj).1; omega)) (by omega)
  · rw [HL4.out]; exact owns_base (owns_heap HP4.out fun j hj => HQ.out j (by have := (HP4.out.lt j hj).1; omega)) (by omega)
  · exact (((((hb5.setCell (by dsimp only; omega) _).setCell (by dsimp only; omega) _).setCell (by dsimp only; omega) _).setCell (by dsimp only; omega) _).setCell (by dsimp only; omega) _).setCell (by dsimp only; omega) _
  · intro p q hp hq
    have h1 := HBK2.out p hp
    have h2 := (HP3.out.lt q hq).1
    omega
theorem Twin04_ok (c : SlC) (a : SlA) (w : World) (hin : SlIn w c a) (hl1 : c.ws.length ≤ 100000) (hl2 : c.ks.length ≤ 100000) (hl3 : c.vs.length ≤ 100000) (hl4 : c.cs.length ≤ 100000) (z1 : a.wa = none → a.wc = 0) (z2 : a.ka = none → a.kc = 0) (z3 : a.va = none → a.vc = 0) (z4 : a.ca = none → a.cc = 0) :
    Calls Tryz.prog 22 #[slV c a] w (FreshSl w c) :=
  (Twin04N_ok c a w hin hl1 hl2 hl3 hl4 z1 z2 z3 z4).mono fun e w' ⟨v1, v2, v3, v4, h0, h1, h2, h3, h4, h5, _⟩ => ⟨v1, v2, v3, v4, h0, h1, h2, h3, h4, h5⟩
end
end Go.Proofs.YtjhpblejlchhjaaGreat
