/- Merged: GapNm, EffFact, Eff6, GapAlv. -/
import Derived.Test.YtookgoidlnlckaaDoorGapCostP25
import Derived.Test.YtookgoidlnlckaaDoorGapCostP28
import Derived.Test.YtookgoidlnlckaaDoorGapCostP20
import Derived.Test.YtookgoidlnlckaaDoorGapCostP8
import Derived.Test.YtookgoidlnlckaaDoorGapCostP2
namespace Go.Proofs.YtookgoidlnlckaaDoor
set_option maxRecDepth 100000
set_option maxHeartbeats 40000000
set_option linter.unusedVariables false
set_option linter.unusedSimpArgs false
section
open Go.RowKit
theorem put_zero {c : Cfg} {s : SlC} {k : Int} (h : putE c s k = 0) : gapE c s = 0 ∧ 0 ≤ k ∧ k ≤ manyC s ∧ (manyC s : Int) ≠ c.most := by
 unfold putE at h
 by_cases h0 : gapE c s = 0
 · rw [if_pos h0] at h
   by_cases h1 : k < 0 ∨ (manyC s : Int) < k
   · rw [if_pos h1] at h; omega
   · rw [if_neg h1] at h
     by_cases h2 : (manyC s : Int) = c.most
     · rw [if_pos h2] at h; omega
     · exact ⟨h0, by omega, by omega, h2⟩
 · rw [if_neg h0] at h; exact absurd h h0
theorem take_zero {c : Cfg} {s : SlC} {k : Int} (h : takE c s k = 0) : gapE c s = 0 ∧ 0 ≤ k ∧ k < manyC s := by
 unfold takE at h
 by_cases h0 : gapE c s = 0
 · rw [if_pos h0] at h
   by_cases h1 : k < 0 ∨ (manyC s : Int) ≤ k
   · rw [if_pos h1] at h; omega
   · exact ⟨h0, by omega, by omega⟩
 · rw [if_neg h0] at h; exact absurd h h0
theorem gd_nums {d : SlC} {S n lc : Nat} (g : SlGd d S ((n + 63) / 64) n lc) : d.ws.length ≤ 1000000 ∧ d.ks.length ≤ 1000000 ∧ d.vs.length ≤ 1000000 ∧ d.cs.length ≤ 1000000 ∧ U64s d.ws := by
 have h1 := g.elw
 have h2 := g.elk
 have h3 := g.elv
 have h4 := g.elc
 have h5 := g.cn
 have h6 := g.s4
 have h7 := g.nm
 have h9 : 1 * lc ≤ S * lc := Nat.mul_le_mul_right _ xo
 exact ⟨by omega, by omega, by omega, by omega, g.u⟩
theorem nil_nums : nilC.ws.length ≤ 1000000 ∧ nilC.ks.length ≤ 1000000 ∧ nilC.vs.length ≤ 1000000 ∧ nilC.cs.length ≤ 1000000 ∧ U64s nilC.ws :=
  ⟨Nat.zero_le _, Nat.zero_le _, Nat.zero_le _, Nat.zero_le _, fun x hx => by cases hx⟩
theorem put_gd {c : Cfg} {s : SlC} (hu : U64s s.ws) {k : Int} (p : Int × Int) (h : putE c s k = 0) : ∃ S n lc, SlGd (putC c s k p) S ((n + 63) / 64) n lc := by
 obtain ⟨h0, k0, k1, k2⟩ := put_zero h
 obtain ⟨hc, a, H, kn, hs, hmost, hden⟩ := gap_zero h0
 rw [sum_many kn hu] at hmost
 obtain ⟨g, hlw⟩ := gapN_gd kn hu
 obtain ⟨p1, p2, p3, p4, p5, p6⟩ := kn.pows
 obtain ⟨n, rfl⟩ : ∃ n : Nat, k = n := ⟨k.toNat, by omega⟩
 have hn : n ≤ manyC s := xo
 have hat := homeC_lt p5 n
 rw [putC, if_pos h, sgL_eq kn.cap.seg, kn.cap.hgt, Int.toNat_natCast]
 unfold putN
 by_cases ht : topI (ovB c s a H (homeC s n)) (H + 1) = H
 · rw [if_pos ht]
   have hLn : (prs s 0 s.ks.length).length = manyC s := prs_length _ _ _
   have hil : (insL (prs s 0 s.ks.length) n p).length = manyC s + 1 := by rw [insL_length (by rw [hLn]; exact hn), hLn]
   have hcap := cap_facts kn (n := manyC s + 1) xo
   exact ⟨_, _, _, (emptyL_gd p1 p2 hcap.2.2.1 hcap.2.2.2.1 s.laid).sp (Nat.zero_le _) (Nat.le_refl _) (by rw [hil]; have := hcap.2.2.2.2.1; omega)⟩
 · rw [if_neg ht]
   obtain ⟨h', eh, hh, hroom⟩ := put_room kn hu hat ht
   have hht : (topI (ovB c s a H (homeC s n)) (H + 1) + 1).toNat = h' := xo
   simp only [hht]
   have b := wnd_bd (a := a) (at_ := homeC s n) hh (by rw [← kn.nk]; exact hat)
   have hhi : (wnd a h' (homeC s n) + 1) * 2 ^ (a + h') ≤ s.ks.length := by rw [kn.nk]; exact b.2.2.2
   obtain ⟨q1, q2⟩ := home_in p5 hn b.2.1 b.2.2.1 hhi
   have hil := insL_length q2 p
   have hpl := prs_length s (wnd a h' (homeC s n) * 2 ^ (a + h')) ((wnd a h' (homeC s n) + 1) * 2 ^ (a + h'))
   have eww : (wnd a h' (homeC s n) + 1) * 2 ^ (a + h') = wnd a h' (homeC s n) * 2 ^ (a + h') + 2 ^ (a + h') := Nat.succ_mul _ _
   exact ⟨_, _, _, g.sp xo hhi (by rw [hil, hpl]; omega)⟩
theorem put_nums (c : Cfg) (s : SlC) (hu : U64s s.ws) (k : Int) (p : Int × Int) : (putC c s k p).ws.length ≤ 1000000 ∧ (putC c s k p).ks.length ≤ 1000000 ∧ (putC c s k p).vs.length ≤ 1000000 ∧ (putC c s k p).cs.length ≤ 1000000 ∧ U64s (putC c s k p).ws := by
 by_cases h : putE c s k = 0
 · obtain ⟨_, _, _, g⟩ := put_gd hu p h
   exact gd_nums g
 · rw [putC, if_neg h]; exact nil_nums
theorem take_gd {c : Cfg} {s : SlC} (hu : U64s s.ws) {k : Int} (h : takE c s k = 0) : ∃ S n lc, SlGd (takC c s k) S ((n + 63) / 64) n lc := by
 obtain ⟨h0, k0, k1⟩ := take_zero h
 obtain ⟨hc, a, H, kn, hs, hmost, hden⟩ := gap_zero h0
 obtain ⟨n, rfl⟩ : ∃ n : Nat, k = n := ⟨k.toNat, by omega⟩
 have hn : n < (plsW s.ws 0 s.ks.length).length := by rw [plsW_length]; unfold manyC at k1; omega
 obtain ⟨hr, hbit, hat⟩ := pls_rank hn
 rw [takC, if_pos h, sgL_eq kn.cap.seg, kn.cap.hgt, Int.toNat_natCast]
 unfold takN
 generalize (plsW s.ws 0 s.ks.length).getD n 0 = at_ at *
 obtain ⟨kz, gz, zl, t1, t2, hzm⟩ := take_in kn hu hat hbit
 dsimp only
 generalize tkC s at_ = z at *
 obtain ⟨z1, z2, z3, z4, z5, z6⟩ := kz.pows
 by_cases ht1 : topI (unfB c z a H at_) (H + 1) = -1
 · rw [if_pos ht1]; exact ⟨_, _, _, gz⟩
 · rw [if_neg ht1]
   by_cases ht : topI (unfB c z a H at_) (H + 1) = H
   · rw [if_pos ht]
     have hLn : (prs z 0 z.ks.length).length = manyC z := prs_length _ _ _
     have hcn : manyC z ≤ z.ks.length := by have := cntW_le z.ws 0 z.ks.length; unfold manyC; omega
     obtain ⟨H', n1, n2, n3, n4⟩ := nar_ok (m := manyC z) 20 z.ks.length a H kz.cap xo xo
     have hnar : narF c (manyC z) 20 z.ks.length = ((2 ^ a * 2 ^ H' : Nat) : Int) := n2.all
     have hbig := n2.big
     have hdiv : (narF c (manyC z) 20 z.ks.length).toNat / 2 ^ a = 2 ^ H' := by rw [hnar, Int.toNat_natCast, Nat.mul_div_cancel_left _ xo]
     rw [hdiv]
     have hle : manyC z ≤ 2 ^ a * 2 ^ H' := by rw [hnar] at n3; omega
     exact ⟨_, _, _, (emptyL_gd z1 z2 (Nat.two_pow_pos H') hbig z.laid).sp (Nat.zero_le _) (Nat.le_refl _) (by rw [hLn]; omega)⟩
   · rw [if_neg ht]
     obtain ⟨h', eh, hh⟩ : ∃ h' : Nat, topI (unfB c z a H at_) (H + 1) + 1 = h' ∧ h' ≤ H := by
      have := topI_bd (unfB c z a H at_) (H + 1)
      exact ⟨(topI (unfB c z a H at_) (H + 1) + 1).toNat, by omega, by omega⟩
     have hht : (topI (unfB c z a H at_) (H + 1) + 1).toNat = h' := xo
     simp only [hht]
     have b := wnd_bd (a := a) (at_ := at_) hh (by rw [← kz.nk]; omega)
     have hhi : (wnd a h' at_ + 1) * 2 ^ (a + h') ≤ s.ks.length := by rw [← zl, kz.nk]; exact b.2.2.2
     have eww : (wnd a h' at_ + 1) * 2 ^ (a + h') = wnd a h' at_ * 2 ^ (a + h') + 2 ^ (a + h') := Nat.succ_mul _ _
     have hpl := prs_length z (wnd a h' at_ * 2 ^ (a + h')) ((wnd a h' at_ + 1) * 2 ^ (a + h'))
     have hc2 := cntW_le z.ws (wnd a h' at_ * 2 ^ (a + h')) ((wnd a h' at_ + 1) * 2 ^ (a + h'))
     exact ⟨_, _, _, gz.sp xo hhi (by rw [hpl]; exact hc2)⟩
theorem take_nums (c : Cfg) (s : SlC) (hu : U64s s.ws) (k : Int) : (takC c s k).ws.length ≤ 1000000 ∧ (takC c s k).ks.length ≤ 1000000 ∧ (takC c s k).vs.length ≤ 1000000 ∧ (takC c s k).cs.length ≤ 1000000 ∧ U64s (takC c s k).ws := by
 by_cases h : takE c s k = 0
 · obtain ⟨_, _, _, g⟩ := take_gd hu h
   exact gd_nums g
 · rw [takC, if_neg h]; exact nil_nums
theorem new_nums9 (c : Cfg) : (newC c).ws.length ≤ 1000000 ∧ (newC c).ks.length ≤ 1000000 ∧ (newC c).vs.length ≤ 1000000 ∧ (newC c).cs.length ≤ 1000000 ∧ U64s (newC c).ws := by
 unfold newC
 split
 · rename_i h
   obtain ⟨S, M, h1, h2, h4, h6, hM, hm, -, -⟩ := least_nums h
   rw [emptyC_eq h1 h2 h4]
   exact gd_nums (emptyL_gd h4 h6 hM hm 0)
 · exact nil_nums
end
section
open Go.RowKit
def StT (t : TypeId) (w w' : World) : Prop := ∃ (b : Nat) (cs cs' : Array Value), w.heap[b]? = some (Obj.cells cs t (0, 0)) ∧ w'.heap[b]? = some (Obj.cells cs' t (0, 0)) ∧ cs'.size = cs.size ∧ w'.heap.size = w.heap.size ∧ ∀ q, q ≠ b → w'.heap[q]? = w.heap[q]?
theorem owns_stT {t e : TypeId} {w w' : World} {B s n : Nat} {v : Value} {xs : List Value} (hs : StT t w w') (hne : e ≠ t) (h : w.ownsRow B e s v n xs) : w'.ownsRow B e s v n xs := by
 obtain ⟨b, cs, cs', h1, h2, h3, h4, h5⟩ := hs
 exact owns_heap h fun k hk => h5 k (row_apart h1 h hne k hk)
structure FactE (t : TypeId) extends FactR RB where
 bears : ∀ v w w', StT t w w' → holds v w → holds v w'
def FactE.any (t : TypeId) : FactE t := ⟨FactR.any RB, fun _ _ _ _ _ => trivial⟩
def FactE.is {t : TypeId} (x : Value) : FactE t := ⟨FactR.is x, fun _ _ _ _ h => h⟩
def FactE.box (base : Nat) (t : TypeId) (n : Nat) : FactE t :=
  ⟨FactR.box base t n, fun v w w' h ⟨b, cs, e, hb, hh, hn⟩ => by
   obtain ⟨b', c0, c1, h1, h2, h3, h4, h5⟩ := h
   by_cases eb : b = b'
   · subst eb
     rw [h1] at hh
     cases hh
     exact ⟨b, c1, e, hb, h2, h3.trans hn⟩
   · exact ⟨b, cs, e, hb, (h5 b eb).trans hh, hn⟩⟩
def effAt {t : TypeId} (m : Nat) (ds : List Nat) (fs : List (FactE t)) (X : (Nat → Value) → World → Prop) (k : Nat) (u : Nat → Value) (w : World) : Prop := (fs.getD k (FactE.any t)).holds (u (ds.getD k 0)) w ∧ (k = m → X u w)
def effExt (t : TypeId) (m i : Nat) (w w' : World) : Prop := (i ≠ m → RB w w') ∧ (i = m → StT t w w')
theorem effAt_stays {t : TypeId} {m : Nat} {ds : List Nat} {fs : List (FactE t)} {X : (Nat → Value) → World → Prop} (hX : ∀ u w w', RB w w' → X u w → X u w') : ∀ i k u w w', k ≠ i → effExt t m i w w' → effAt m ds fs X k u w → effAt m ds fs X k u w' := by
 intro i k u w w' hne hE hG
 by_cases h : i = m
 · exact ⟨(fs.getD k (FactE.any t)).bears _ _ _ (hE.2 h) hG.1, fun e => absurd (e.trans h.symm) hne⟩
 · exact ⟨(fs.getD k (FactE.any t)).stays _ _ _ (hE.1 h) hG.1, fun e => hX _ _ _ (hE.1 h) (hG.2 e)⟩
theorem effAt_dep {t : TypeId} {l : List Oper} {m n : Nat} {ds : List Nat} {fs : List (FactE t)} {X : (Nat → Value) → World → Prop} (dps : List Nat) (hX : ∀ u u' w, (∀ s ∈ dps, u' s = u s) → X u w → X u' w)
    (h : (List.range l.length).all (fun k => match l[k]? with | some o => decide (n ≤ k) || o.dst == some (ds.getD k 0) | none => true) = true)
    (h7 : dps.all (fun s => (List.range l.length).any fun j => match l[j]?, l[m]? with | some p, some o => p.dst == some s && (o.after.any fun e => Region.binds .any e && e.on == j) | _, _ => false) = true) (hfs : fs.length ≤ n) (hll : n ≤ l.length) :
    ∀ (k : Nat) (u u' : Nat → Value) (w : World), (∀ (j : Nat) (p o : Oper), l[j]? = some p → l[k]? = some o → (j = k ∨ (o.after.any fun e => Region.binds .any e && e.on == j) = true) → valOf u' p = valOf u p) → effAt m ds fs X k u w → effAt m ds fs X k u' w := by
 intro k u u' w hv hg
 refine ⟨?_, ?_⟩
 · by_cases hk : n ≤ k
   · rw [List.getD_eq_getElem?_getD, List.getElem?_eq_none xo]; trivial
   · by_cases hl : k < l.length
     · have h1 := List.all_eq_true.1 h k (List.mem_range.2 hl)
       have ho : l[k]? = some l[k] := List.getElem?_eq_getElem hl
       rw [ho] at h1
       simp only [Bool.or_eq_true, decide_eq_true_eq, beq_iff_eq] at h1
       have h2 := h1.resolve_left hk
       have h3 := hv k _ _ ho ho (.inl rfl)
       simp only [valOf, h2] at h3
       rw [h3]
       exact hg.1
     · omega
 · rintro rfl
   refine hX u u' w (fun s hs => ?_) (hg.2 rfl)
   have h1 := List.all_eq_true.1 h7 s hs
   obtain ⟨j, hj, h2⟩ := List.any_eq_true.1 h1
   cases hp : l[j]? with
   | none => rw [hp] at h2; cases h2
   | some p =>
    cases ho : l[k]? with
    | none => rw [hp, ho] at h2; cases h2
    | some o =>
     rw [hp, ho] at h2
     simp only [Bool.and_eq_true, beq_iff_eq] at h2
     have e1 := hv j p o hp ho (.inr h2.2)
     simp only [valOf, h2.1] at e1
     exact e1
end
section
open Go.RowKit
theorem six_stT {t : TypeId} {w : World} {b : Nat} {cs : Array Value} (h : w.heap[b]? = some (.cells cs t (0, 0))) (x y z p q r : Value) :
    StT t w ((((((w.setCell ⟨b, 0, none⟩ x).setCell ⟨b, 1, none⟩ y).setCell ⟨b, 2, none⟩ z).setCell ⟨b, 3, none⟩ p).setCell ⟨b, 4, none⟩ q).setCell ⟨b, 5, none⟩ r) :=
  ⟨b, cs, _, h, heap_setCell_same _ _ _ _ _ _ (heap_setCell_same _ _ _ _ _ _ (heap_setCell_same _ _ _ _ _ _ (heap_setCell_same _ _ _ _ _ _ (heap_setCell_same _ _ _ _ _ _ (heap_setCell_same _ _ _ _ _ _ h))))), by simp, by simp only [World.size_setCell], fun q hq => by rw [heap_setCell_ne _ _ _ hq, heap_setCell_ne _ _ _ hq, heap_setCell_ne _ _ _ hq, heap_setCell_ne _ _ _ hq, heap_setCell_ne _ _ _ hq, heap_setCell_ne _ _ _ hq]⟩
theorem boxE_six {w : World} {b : Nat} {cs : Array Value} {t : TypeId} (h : w.heap[b]? = some (.cells cs t (0, 0))) (hs : cs.size = 6) :
    ∃ x0 x1 x2 x3 x4 x5, (w.cell? ⟨b, 0, none⟩ = some x0 ∧ w.cell? ⟨b, 1, none⟩ = some x1 ∧ w.cell? ⟨b, 2, none⟩ = some x2 ∧ w.cell? ⟨b, 3, none⟩ = some x3 ∧ w.cell? ⟨b, 4, none⟩ = some x4 ∧ w.cell? ⟨b, 5, none⟩ = some x5) ∧
      w.frozen? ⟨b, 0, none⟩ = false ∧ w.frozen? ⟨b, 1, none⟩ = false ∧ w.frozen? ⟨b, 2, none⟩ = false ∧ w.frozen? ⟨b, 3, none⟩ = false ∧ w.frozen? ⟨b, 4, none⟩ = false ∧ w.frozen? ⟨b, 5, none⟩ = false := by
 refine ⟨cs[0], cs[1], cs[2], cs[3], cs[4], cs[5], ⟨?_, ?_, ?_, ?_, ?_, ?_⟩, ?_, ?_, ?_, ?_, ?_, ?_⟩ <;> simp [World.cell?, World.frozen?, h, hs]
def FactE.slS (base : Nat) (c : SlC) : FactE 29 :=
  ⟨FactR.sl base c, fun _ _ _ h ⟨v1, v2, v3, v4, e, h1, h2, h3, h4⟩ => ⟨v1, v2, v3, v4, e, owns_stT h (by decide) h1, owns_stT h (by decide) h2, owns_stT h (by decide) h3, owns_stT h (by decide) h4⟩⟩
def FactR.slt (base : Nat) (c : SlC) (x : Value) : FactR RB := ⟨fun v w => ∃ y, v = .tuple #[y, x] ∧ (FactR.sl base c).holds y w, fun _ _ _ h ⟨y, e, h1⟩ => ⟨y, e, (FactR.sl base c).stays _ _ _ h h1⟩⟩
def FactE.slt (base : Nat) (c : SlC) (x : Value) : FactE 29 := ⟨FactR.slt base c x, fun _ _ _ h ⟨y, e, h1⟩ => ⟨y, e, (FactE.slS base c).bears _ _ _ h h1⟩⟩
def boxL (base s v : Nat) (u : Nat → Value) (w : World) : Prop := ∃ b cs, u s = .pointer (some ⟨b, 0, none⟩) ∧ base ≤ b ∧ b < w.heap.size ∧ u v = .agg cs ∧ PB w b cs.toList
theorem boxL_stays {base s v : Nat} : ∀ u w w', RB w w' → boxL base s v u w → boxL base s v u w' := by
 rintro u w w' h ⟨b, cs, h1, h2, h3, h4, h5⟩
 exact ⟨b, cs, h1, h2, Nat.lt_of_lt_of_le h3 h.size, h4, pb_below h h5 h3⟩
theorem boxL_dep {base s v : Nat} : ∀ u u' w, (∀ x ∈ [s, v], u' x = u x) → boxL base s v u w → boxL base s v u' w := by
 rintro u u' w hu ⟨b, cs, h1, h2, h3, h4, h5⟩
 exact ⟨b, cs, (hu s (by simp)).trans h1, h2, h3, (hu v (by simp)).trans h4, h5⟩
end
section
open Go.RowKit Go.Shelf Go.Sort
attribute [local go_sem] Oper.semAt_some
def chG : Cfg := ⟨1, 8, 4, 16, 8, 0, 1, 4, 8⟩
theorem chap9_ok (w : World) : Calls Tryd.prog 16 #[] w (AnsB w (.agg #[.int .u8 1, .int .i64 8, .int .i64 4, .int .i64 16, .int .i64 8, .int .i64 0, .int .i64 1, .int .i64 4, .int .i64 8])) := by
 go_enter Tryd.func16, Tryd.ntmps16
 go_wp2_with (refine wpl_store_new 23 (.tmp 0) (.tmp 1) #[.int .u8 0, .int .i64 0, .int .i64 0, .int .i64 0, .int .i64 0, .int .i64 0, .int .i64 0, .int .i64 0, .int .i64 0] #[.int .u8 1, .int .i64 8, .int .i64 4, .int .i64 16, .int .i64 8, .int .i64 0, .int .i64 1, .int .i64 4, .int .i64 8] rfl rfl rfl rfl xk rfl (by simp [Value.oneCell']) ?_)
 exact bodyPost_ret (results_c rfl rfl (run_loadVar_many _ Tryd.underlying23 rfl xk (pb_new w w.heap.size [.int .u8 1, .int .i64 8, .int .i64 4, .int .i64 16, .int .i64 8, .int .i64 0, .int .i64 1, .int .i64 4, .int .i64 8] rfl))) rfl ⟨rfl, (Below.refl _ _).alloc (Nat.le_refl _) _⟩
theorem alive9_core (c : Cfg) (s d g : SlC) (hs : s.ks.length = 16) (hd : d.ks.length = 16) (hg : g.ks.length = 16) (hd0 : d.ks.getD 0 0 = 5) (hg0 : g.ks.getD 0 0 = 5) (hg2 : g.ks.getD 2 0 = 9) (hdl : d.laid = 1) (hgl : g.laid = 3) (hsu : U64s s.ws) (hdu : U64s d.ws) (hgu : U64s g.ws) (w : World)
    (CH : Hid (∀ W, Calls Tryd.prog 16 #[] W (AnsB W (.agg #[.int .u8 c.tag, .int .i64 c.most, .int .i64 c.seg, .int .i64 c.least, .int .i64 c.den, .int .i64 c.ll, .int .i64 c.rl, .int .i64 c.rh, .int .i64 c.lh]))))
    (NW : Hid (∀ W, Calls Tryd.prog 15 #[.agg #[.int .u8 c.tag, .int .i64 c.most, .int .i64 c.seg, .int .i64 c.least, .int .i64 c.den, .int .i64 c.ll, .int .i64 c.rl, .int .i64 c.rh, .int .i64 c.lh]] W (FreshSl2 W s (.int .i64 0))))
    (P1 : Hid (∀ W (sa : SlA), Below w.heap.size w W → SlIn W s sa → s.cs.length ≤ sa.cc → Calls Tryd.prog 9 #[.agg #[.int .u8 c.tag, .int .i64 c.most, .int .i64 c.seg, .int .i64 c.least, .int .i64 c.den, .int .i64 c.ll, .int .i64 c.rl, .int .i64 c.rh, .int .i64 c.lh], slV s sa, .int .i64 0, .agg #[.int .i64 5, .int .i64 0]] W (FreshSl2 W d (.int .i64 0))))
    (P2 : Hid (∀ W (sa : SlA), Below w.heap.size w W → SlIn W d sa → d.cs.length ≤ sa.cc → Calls Tryd.prog 9 #[.agg #[.int .u8 c.tag, .int .i64 c.most, .int .i64 c.seg, .int .i64 c.least, .int .i64 c.den, .int .i64 c.ll, .int .i64 c.rl, .int .i64 c.rh, .int .i64 c.lh], slV d sa, .int .i64 1, .agg #[.int .i64 9, .int .i64 0]] W (FreshSl2 W g (.int .i64 0)))) :
    Calls Tryd.prog 7 #[] w (AnsB w (.bool true)) := by
 have e1 : ((s.ks.length : Int) == 16) = true := by rw [hs]; rfl
 have e2 : ((d.ks.length : Int) == 16) = true := by rw [hd]; rfl
 have e3 : ((g.ks.length : Int) == 16) = true := by rw [hg]; rfl
 have hd1 : 0 < d.ks.length := xo
 have hg1 : 2 < g.ks.length := xo
 have HK := hid (And.intro hd0 (And.intro hg0 hg2))
 have e7 : (d.laid == 1) = true := by rw [hdl]; rfl
 have e8 : (g.laid == 3) = true := by rw [hgl]; rfl
 have HU := hid (And.intro hsu (And.intro hdu hgu))
 clear hs hd hg hd0 hg0 hg2 hdl hgl hsu hdu hgu
 dsimp only [slV] at P1 P2
 go_enter Tryd.func7, Tryd.ntmps7
 go_wp2_with fail
 refine (CH.out _).mono ?_
 rintro e w1 ⟨rfl, hb1⟩
 go_wp2_with fail
 refine (NW.out _).mono ?_
 rintro e w2 ⟨v1, v2, v3, v4, rfl, p1, p2, p3, p4, hb2⟩
 have HB2 := hid (below_via hb2 hb1 hb1.size)
 obtain ⟨a1, k1, rfl, i1, -, -, -, -⟩ := row_of_owns p1
 obtain ⟨a2, k2, rfl, i2, -, -, -, -⟩ := row_of_owns p2
 obtain ⟨a3, k3, rfl, i3, -, -, -, -⟩ := row_of_owns p3
 obtain ⟨a4, k4, rfl, i4, -, -, hcc, -⟩ := row_of_owns p4
 have HN2 : Hid (SlIn w2 s ⟨a1, a2, a3, a4, k1, k2, k3, k4⟩) := hid ⟨i1, i2, i3, i4, HU.out.1⟩
 have HCS := hid hcc
 clear hb1 hb2 p1 p2 p3 p4 i1 i2 i3 i4 hcc NW
 go_upto_region 2 with (refine wpl_store_new 29 (.tmp 1) (.tmp 10) #[.int .i64 0, .slice none 0 0, .slice none 0 0, .slice none 0 0, .slice none 0 0, .int .u64 0] #[.int .i64 s.seg, .slice a1 s.ws.length k1, .slice a2 s.ks.length k2, .slice a3 s.vs.length k3, .slice a4 s.cs.length k4, .int .u64 s.laid] rfl rfl rfl rfl xk rfl (by simp [Value.oneCell']) ?_)
 generalize hw3 : w2.alloc (.cells #[.int .i64 s.seg, .slice a1 s.ws.length k1, .slice a2 s.ks.length k2, .slice a3 s.vs.length k3, .slice a4 s.cs.length k4, .int .u64 s.laid] 29) = w3
 have P_s : Hid (PB w3 (w2.heap.size) [.int .i64 s.seg, .slice a1 s.ws.length k1, .slice a2 s.ks.length k2, .slice a3 s.vs.length k3, .slice a4 s.cs.length k4, .int .u64 s.laid]) := by rw [← hw3]; exact hid (pb_new _ _ _ (by simp))
 have Z_s : w2.heap.size < w3.heap.size := by rw [← hw3]; simp only [World.size_alloc]; omega
 have hb3 : Below w2.heap.size w2 w3 := by rw [← hw3]; exact (Below.refl _ _).alloc (Nat.le_refl _) _
 have hz3 : w2.heap.size < w3.heap.size := by rw [← hw3]; simp
 have HB3 := xv hb3 HB2
 have HN3 := hid (HN2.out.below hb3)
 clear hw3 hb3 HN2 Z_s
 have c_s0 := P_s.out 0 _ rfl
 have c_s1 := P_s.out 1 _ rfl
 have c_s2 := P_s.out 2 _ rfl
 have c_s3 := P_s.out 3 _ rfl
 have c_s4 := P_s.out 4 _ rfl
 have c_s5 := P_s.out 5 _ rfl
 refine wp_region_eff 9 xk (N := 85) rfl xk xk (by decide) (fun w' => Below w3.heap.size w3 w') (effExt 29 8) (effAt 8 [13, 14, 15, 16, 12, 17, 18, 3] [.is (.agg #[.int .u8 c.tag, .int .i64 c.most, .int .i64 c.seg, .int .i64 c.least, .int .i64 c.den, .int .i64 c.ll, .int .i64 c.rl, .int .i64 c.rh, .int .i64 c.lh]), .is (.agg #[.int .i64 s.seg, .slice a1 s.ws.length k1, .slice a2 s.ks.length k2, .slice a3 s.vs.length k3, .slice a4 s.cs.length k4, .int .u64 s.laid]), .is (.agg #[.int .i64 5, .int .i64 0]), .slt w3.heap.size d (.int .i64 0), .slt w3.heap.size d (.int .i64 0), .slS w3.heap.size d, .is (.int .i64 0), .box w3.heap.size 29 6] (boxL w3.heap.size 3 17)) (effAt_stays boxL_stays) (effAt_dep (n := 8) [3, 17] boxL_dep xk xk (Nat.le_refl 8) (by decide)) (Below.refl _ _).drew ?steps ?fin
 case steps =>
  refine ⟨?o0, ?o1, ?o2, ?o3, ?o4, ?o5, ?o6, ?o7, ?o8, trivial⟩
  case o0 =>
   intro u a w' ev hJ hd K hK
   have HK := hid hK
   have HC := hid (CH.out w')
   have hzJ := hJ.size
   have HJ := hid hJ
   clear hK ev hd hJ
   go_simp
   refine HC.out.mono ?_
   rintro e w'' ⟨rfl, hb⟩
   exact HK.out _ _ (fun h => by cases h) (HJ.out.trans (hb.mono hzJ)) ⟨rfl, fun h => absurd h (by decide)⟩ ⟨fun _ => hb, fun h => absurd h (by decide)⟩
  case o1 =>
   intro u a w' ev hJ hd K hK
   have e1 : a.tmps.getD 1 undef = .pointer (some ⟨w2.heap.size, 0, none⟩) := ev 1 (by decide)
   have g0 := (hJ.cell (p := ⟨w2.heap.size, 0, none⟩) (by dsimp only; omega)).trans c_s0
   have g1 := (hJ.cell (p := ⟨w2.heap.size, 1, none⟩) (by dsimp only; omega)).trans c_s1
   have g2 := (hJ.cell (p := ⟨w2.heap.size, 2, none⟩) (by dsimp only; omega)).trans c_s2
   have g3 := (hJ.cell (p := ⟨w2.heap.size, 3, none⟩) (by dsimp only; omega)).trans c_s3
   have g4 := (hJ.cell (p := ⟨w2.heap.size, 4, none⟩) (by dsimp only; omega)).trans c_s4
   have g5 := (hJ.cell (p := ⟨w2.heap.size, 5, none⟩) (by dsimp only; omega)).trans c_s5
   have HK := hid hK
   clear hK ev hd
   go_simp
   exact HK.out _ _ (fun h => by cases h) hJ ⟨rfl, fun h => absurd h (by decide)⟩ ⟨fun _ => Below.refl _ _, fun h => absurd h (by decide)⟩
  case o2 =>
   intro u a w' ev hJ hd K hK
   have HK := hid hK
   clear hK ev hd
   go_simp
   exact HK.out _ _ (fun h => by cases h) hJ ⟨rfl, fun h => absurd h (by decide)⟩ ⟨fun _ => Below.refl _ _, fun h => absurd h (by decide)⟩
  case o3 =>
   intro u a w' ev hJ hd K hK
   have e13 : a.tmps.getD 13 undef = .agg #[.int .u8 c.tag, .int .i64 c.most, .int .i64 c.seg, .int .i64 c.least, .int .i64 c.den, .int .i64 c.ll, .int .i64 c.rl, .int .i64 c.rh, .int .i64 c.lh] := (ev 13 (by decide)).trans (hd 0 _ xk rfl).1
   have e14 : a.tmps.getD 14 undef = .agg #[.int .i64 s.seg, .slice a1 s.ws.length k1, .slice a2 s.ks.length k2, .slice a3 s.vs.length k3, .slice a4 s.cs.length k4, .int .u64 s.laid] := (ev 14 (by decide)).trans (hd 1 _ xk rfl).1
   have e15 : a.tmps.getD 15 undef = .agg #[.int .i64 5, .int .i64 0] := (ev 15 (by decide)).trans (hd 2 _ xk rfl).1
   have HK := hid hK
   have HC := hid (P1.out w' ⟨a1, a2, a3, a4, k1, k2, k3, k4⟩ (below_via hJ HB3.out HB3.out.size) (HN3.out.below hJ) HCS.out)
   have hzJ := hJ.size
   have HJ := hid hJ
   clear hK ev hd hJ
   go_simp
   refine HC.out.mono ?_
   rintro e w'' ⟨v1, v2, v3, v4, rfl, p1, p2, p3, p4, hb⟩
   exact HK.out _ _ (fun h => by cases h) (HJ.out.trans (hb.mono hzJ)) ⟨⟨_, rfl, v1, v2, v3, v4, rfl, owns_base p1 hzJ, owns_base p2 hzJ, owns_base p3 hzJ, owns_base p4 hzJ⟩, fun h => absurd h (by decide)⟩ ⟨fun _ => hb, fun h => absurd h (by decide)⟩
  case o4 =>
   intro u a w' ev hJ hd K hK
   obtain ⟨y, ht, hy⟩ : (FactR.slt w3.heap.size d (.int .i64 0)).holds (u 16) w' := (hd 3 _ xk rfl).1
   have e16 : a.tmps.getD 16 undef = _ := (ev 16 (by decide)).trans ht
   have HK := hid hK
   have HY := hid hy
   clear hK ev hd hy
   go_simp
   exact HK.out _ _ (fun h => by cases h) hJ ⟨⟨y, rfl, HY.out⟩, fun h => absurd h (by decide)⟩ ⟨fun _ => Below.refl _ _, fun h => absurd h (by decide)⟩
  case o5 =>
   intro u a w' ev hJ hd K hK
   obtain ⟨y, ht, hy⟩ : (FactR.slt w3.heap.size d (.int .i64 0)).holds (u 12) w' := (hd 4 _ xk rfl).1
   have e12 : a.tmps.getD 12 undef = _ := (ev 12 (by decide)).trans ht
   have HK := hid hK
   have HY := hid hy
   clear hK ev hd hy
   go_simp
   exact HK.out _ _ (fun h => by cases h) hJ ⟨HY.out, fun h => absurd h (by decide)⟩ ⟨fun _ => Below.refl _ _, fun h => absurd h (by decide)⟩
  case o6 =>
   intro u a w' ev hJ hd K hK
   obtain ⟨y, ht, hy⟩ : (FactR.slt w3.heap.size d (.int .i64 0)).holds (u 12) w' := (hd 4 _ xk rfl).1
   have e12 : a.tmps.getD 12 undef = _ := (ev 12 (by decide)).trans ht
   have HK := hid hK
   have HY := hid hy
   clear hK ev hd hy
   go_simp
   exact HK.out _ _ (fun h => by cases h) hJ ⟨rfl, fun h => absurd h (by decide)⟩ ⟨fun _ => Below.refl _ _, fun h => absurd h (by decide)⟩
  case o7 =>
   intro u a w' ev hJ hd K hK
   have HK := hid hK
   have hzJ := hJ.size
   have HJ := hid hJ
   clear hK ev hd hJ
   go_simp
   exact HK.out _ _ (fun h => by cases h) (HJ.out.alloc hzJ _) ⟨⟨_, _, rfl, hzJ, alloc_new _ _, rfl⟩, fun h => absurd h (by decide)⟩ ⟨fun _ => (Below.refl _ _).alloc (Nat.le_refl _) _, fun h => absurd h (by decide)⟩
  case o8 =>
   intro u a w' ev hJ hd K hK
   obtain ⟨b6, cs6, h6, hz6, hh6, hn6⟩ : (FactR.box w3.heap.size 29 6).holds (u 3) w' := (hd 7 _ xk rfl).1
   obtain ⟨v1, v2, v3, v4, h5, o1, o2, o3, o4⟩ : (FactR.sl w3.heap.size d).holds (u 17) w' := (hd 5 _ xk rfl).1
   obtain ⟨q1, m1, rfl, -⟩ := owns_news o1
   obtain ⟨q2, m2, rfl, -⟩ := owns_news o2
   obtain ⟨q3, m3, rfl, -⟩ := owns_news o3
   obtain ⟨q4, m4, rfl, -⟩ := owns_news o4
   have hlt : b6 < w'.heap.size := (Array.getElem?_eq_some_iff.1 hh6).1
   obtain ⟨x0, x1, x2, x3, x4, x5, ⟨k0, k1, k2, k3, k4, k5⟩, f0, f1, f2, f3, f4, f5⟩ := boxE_six hh6 hn6
   have e7 : a.tmps.getD 3 undef = _ := (ev 3 (by decide)).trans h6
   have e5 : a.tmps.getD 17 undef = _ := (ev 17 (by decide)).trans h5
   have HS := hid (six_set (w := w') (b := b6) (x := .int .i64 d.seg) (y := .slice q1 d.ws.length m1) (z := .slice q2 d.ks.length m2) (p := .slice q3 d.vs.length m3) (q := .slice q4 d.cs.length m4) (r := .int .u64 d.laid) k0 k1 k2 k3 k4 k5)
   have HT := hid (six_stT hh6 (.int .i64 d.seg) (.slice q1 d.ws.length m1) (.slice q2 d.ks.length m2) (.slice q3 d.vs.length m3) (.slice q4 d.cs.length m4) (.int .u64 d.laid))
   have HK := hid hK
   have HJ := hid hJ
   have HH := hid (And.intro h6 h5)
   clear hK ev hd hJ h6 h5 hh6 o1 o2 o3 o4
   go_simp
   exact HK.out _ _ (fun _ => rfl) ((((((HJ.out.setCell (by dsimp only; omega) _).setCell (by dsimp only; omega) _).setCell (by dsimp only; omega) _).setCell (by dsimp only; omega) _).setCell (by dsimp only; omega) _).setCell (by dsimp only; omega) _) ⟨trivial, fun _ => ⟨b6, _, HH.out.1, hz6, by simp only [World.size_setCell]; exact hlt, HH.out.2, HS.out⟩⟩ ⟨fun h => absurd rfl h, fun _ => HT.out⟩
 case fin =>
 intro u w4 hJ hG
 clear c_s0 c_s1 c_s2 c_s3 c_s4 c_s5
 obtain ⟨v1, v2, v3, v4, h5, p1, p2, p3, p4⟩ : (FactR.sl w3.heap.size d).holds (u 17) w4 := (hG 5 _ rfl).1
 have h6 : u 18 = .int .i64 0 := (hG 6 _ rfl).1
 obtain ⟨bd, cs, h7, hb0, hb1, hx, hpb⟩ : boxL w3.heap.size 3 17 u w4 := (hG 8 _ rfl).2 rfl
 rw [h5] at hx
 cases hx
 have HB4 := xv hJ HB3
 obtain ⟨b1, j1, rfl, i1, -, -, -, -⟩ := row_of_owns p1
 obtain ⟨b2, j2, rfl, i2, -, -, -, -⟩ := row_of_owns p2
 obtain ⟨b3, j3, rfl, i3, -, -, -, -⟩ := row_of_owns p3
 obtain ⟨b4, j4, rfl, i4, -, -, hcc, -⟩ := row_of_owns p4
 have HOd := hid p2
 have HN4 : Hid (SlIn w4 d ⟨b1, b2, b3, b4, j1, j2, j3, j4⟩) := hid ⟨i1, i2, i3, i4, HU.out.2.1⟩
 have HCD := hid hcc
 have P_d := hid hpb
 replace P_s := hid (pb_below hJ P_s.out xo)
 have hJz4 := hJ.size
 clear p1 p2 p3 p4 i1 i2 i3 i4 hcc hJ hG hpb
 simp only [mixFrame, mixL, dstsOf, List.take_succ_cons, List.take_zero, List.filterMap_cons, List.filterMap_nil, List.contains_cons, List.contains_nil, Nat.reduceBEq, Bool.or_false, Bool.false_or, Bool.or_true, Bool.true_or, if_true, if_false, Bool.false_eq_true, Nat.reduceAdd, Nat.zero_add, List.drop_succ_cons, List.drop_zero, h5, h6, h7]
 clear h5 h6 h7
 go_upto_region 3 with (fail)
 have c_d0 := P_d.out 0 _ rfl
 have c_d1 := P_d.out 1 _ rfl
 have c_d2 := P_d.out 2 _ rfl
 have c_d3 := P_d.out 3 _ rfl
 have c_d4 := P_d.out 4 _ rfl
 have c_d5 := P_d.out 5 _ rfl
 refine wp_region_eff 9 xk (N := 85) rfl xk xk (by decide) (fun w' => Below w4.heap.size w4 w') (effExt 29 8) (effAt 8 [20, 21, 22, 23, 19, 24, 25, 5] [.is (.agg #[.int .u8 c.tag, .int .i64 c.most, .int .i64 c.seg, .int .i64 c.least, .int .i64 c.den, .int .i64 c.ll, .int .i64 c.rl, .int .i64 c.rh, .int .i64 c.lh]), .is (.agg #[.int .i64 d.seg, .slice b1 d.ws.length j1, .slice b2 d.ks.length j2, .slice b3 d.vs.length j3, .slice b4 d.cs.length j4, .int .u64 d.laid]), .is (.agg #[.int .i64 9, .int .i64 0]), .slt w4.heap.size g (.int .i64 0), .slt w4.heap.size g (.int .i64 0), .slS w4.heap.size g, .is (.int .i64 0), .box w4.heap.size 29 6] (boxL w4.heap.size 5 24)) (effAt_stays boxL_stays) (effAt_dep (n := 8) [5, 24] boxL_dep xk xk (Nat.le_refl 8) (by decide)) (Below.refl _ _).drew ?steps ?fin
 case steps =>
  refine ⟨?o0, ?o1, ?o2, ?o3, ?o4, ?o5, ?o6, ?o7, ?o8, trivial⟩
  case o0 =>
   intro u a w' ev hJ hd K hK
   have HK := hid hK
   have HC := hid (CH.out w')
   have hzJ := hJ.size
   have HJ := hid hJ
   clear hK ev hd hJ
   go_simp
   refine HC.out.mono ?_
   rintro e w'' ⟨rfl, hb⟩
   exact HK.out _ _ (fun h => by cases h) (HJ.out.trans (hb.mono hzJ)) ⟨rfl, fun h => absurd h (by decide)⟩ ⟨fun _ => hb, fun h => absurd h (by decide)⟩
  case o1 =>
   intro u a w' ev hJ hd K hK
   have e3 : a.tmps.getD 3 undef = .pointer (some ⟨bd, 0, none⟩) := ev 3 (by decide)
   have g0 := (hJ.cell (p := ⟨bd, 0, none⟩) (by dsimp only; omega)).trans c_d0
   have g1 := (hJ.cell (p := ⟨bd, 1, none⟩) (by dsimp only; omega)).trans c_d1
   have g2 := (hJ.cell (p := ⟨bd, 2, none⟩) (by dsimp only; omega)).trans c_d2
   have g3 := (hJ.cell (p := ⟨bd, 3, none⟩) (by dsimp only; omega)).trans c_d3
   have g4 := (hJ.cell (p := ⟨bd, 4, none⟩) (by dsimp only; omega)).trans c_d4
   have g5 := (hJ.cell (p := ⟨bd, 5, none⟩) (by dsimp only; omega)).trans c_d5
   have HK := hid hK
   clear hK ev hd
   go_simp
   exact HK.out _ _ (fun h => by cases h) hJ ⟨rfl, fun h => absurd h (by decide)⟩ ⟨fun _ => Below.refl _ _, fun h => absurd h (by decide)⟩
  case o2 =>
   intro u a w' ev hJ hd K hK
   have HK := hid hK
   clear hK ev hd
   go_simp
   exact HK.out _ _ (fun h => by cases h) hJ ⟨rfl, fun h => absurd h (by decide)⟩ ⟨fun _ => Below.refl _ _, fun h => absurd h (by decide)⟩
  case o3 =>
   intro u a w' ev hJ hd K hK
   have e20 : a.tmps.getD 20 undef = .agg #[.int .u8 c.tag, .int .i64 c.most, .int .i64 c.seg, .int .i64 c.least, .int .i64 c.den, .int .i64 c.ll, .int .i64 c.rl, .int .i64 c.rh, .int .i64 c.lh] := (ev 20 (by decide)).trans (hd 0 _ xk rfl).1
   have e21 : a.tmps.getD 21 undef = .agg #[.int .i64 d.seg, .slice b1 d.ws.length j1, .slice b2 d.ks.length j2, .slice b3 d.vs.length j3, .slice b4 d.cs.length j4, .int .u64 d.laid] := (ev 21 (by decide)).trans (hd 1 _ xk rfl).1
   have e22 : a.tmps.getD 22 undef = .agg #[.int .i64 9, .int .i64 0] := (ev 22 (by decide)).trans (hd 2 _ xk rfl).1
   have HK := hid hK
   have HC := hid (P2.out w' ⟨b1, b2, b3, b4, j1, j2, j3, j4⟩ (below_via hJ HB4.out HB4.out.size) (HN4.out.below hJ) HCD.out)
   have hzJ := hJ.size
   have HJ := hid hJ
   clear hK ev hd hJ
   go_simp
   refine HC.out.mono ?_
   rintro e w'' ⟨v1, v2, v3, v4, rfl, p1, p2, p3, p4, hb⟩
   exact HK.out _ _ (fun h => by cases h) (HJ.out.trans (hb.mono hzJ)) ⟨⟨_, rfl, v1, v2, v3, v4, rfl, owns_base p1 hzJ, owns_base p2 hzJ, owns_base p3 hzJ, owns_base p4 hzJ⟩, fun h => absurd h (by decide)⟩ ⟨fun _ => hb, fun h => absurd h (by decide)⟩
  case o4 =>
   intro u a w' ev hJ hd K hK
   obtain ⟨y, ht, hy⟩ : (FactR.slt w4.heap.size g (.int .i64 0)).holds (u 23) w' := (hd 3 _ xk rfl).1
   have e23 : a.tmps.getD 23 undef = _ := (ev 23 (by decide)).trans ht
   have HK := hid hK
   have HY := hid hy
   clear hK ev hd hy
   go_simp
   exact HK.out _ _ (fun h => by cases h) hJ ⟨⟨y, rfl, HY.out⟩, fun h => absurd h (by decide)⟩ ⟨fun _ => Below.refl _ _, fun h => absurd h (by decide)⟩
  case o5 =>
   intro u a w' ev hJ hd K hK
   obtain ⟨y, ht, hy⟩ : (FactR.slt w4.heap.size g (.int .i64 0)).holds (u 19) w' := (hd 4 _ xk rfl).1
   have e19 : a.tmps.getD 19 undef = _ := (ev 19 (by decide)).trans ht
   have HK := hid hK
   have HY := hid hy
   clear hK ev hd hy
   go_simp
   exact HK.out _ _ (fun h => by cases h) hJ ⟨HY.out, fun h => absurd h (by decide)⟩ ⟨fun _ => Below.refl _ _, fun h => absurd h (by decide)⟩
  case o6 =>
   intro u a w' ev hJ hd K hK
   obtain ⟨y, ht, hy⟩ : (FactR.slt w4.heap.size g (.int .i64 0)).holds (u 19) w' := (hd 4 _ xk rfl).1
   have e19 : a.tmps.getD 19 undef = _ := (ev 19 (by decide)).trans ht
   have HK := hid hK
   have HY := hid hy
   clear hK ev hd hy
   go_simp
   exact HK.out _ _ (fun h => by cases h) hJ ⟨rfl, fun h => absurd h (by decide)⟩ ⟨fun _ => Below.refl _ _, fun h => absurd h (by decide)⟩
  case o7 =>
   intro u a w' ev hJ hd K hK
   have HK := hid hK
   have hzJ := hJ.size
   have HJ := hid hJ
   clear hK ev hd hJ
   go_simp
   exact HK.out _ _ (fun h => by cases h) (HJ.out.alloc hzJ _) ⟨⟨_, _, rfl, hzJ, alloc_new _ _, rfl⟩, fun h => absurd h (by decide)⟩ ⟨fun _ => (Below.refl _ _).alloc (Nat.le_refl _) _, fun h => absurd h (by decide)⟩
  case o8 =>
   intro u a w' ev hJ hd K hK
   obtain ⟨b6, cs6, h6, hz6, hh6, hn6⟩ : (FactR.box w4.heap.size 29 6).holds (u 5) w' := (hd 7 _ xk rfl).1
   obtain ⟨v1, v2, v3, v4, h5, o1, o2, o3, o4⟩ : (FactR.sl w4.heap.size g).holds (u 24) w' := (hd 5 _ xk rfl).1
   obtain ⟨q1, m1, rfl, -⟩ := owns_news o1
   obtain ⟨q2, m2, rfl, -⟩ := owns_news o2
   obtain ⟨q3, m3, rfl, -⟩ := owns_news o3
   obtain ⟨q4, m4, rfl, -⟩ := owns_news o4
   have hlt : b6 < w'.heap.size := (Array.getElem?_eq_some_iff.1 hh6).1
   obtain ⟨x0, x1, x2, x3, x4, x5, ⟨k0, k1, k2, k3, k4, k5⟩, f0, f1, f2, f3, f4, f5⟩ := boxE_six hh6 hn6
   have e7 : a.tmps.getD 5 undef = _ := (ev 5 (by decide)).trans h6
   have e5 : a.tmps.getD 24 undef = _ := (ev 24 (by decide)).trans h5
   have HS := hid (six_set (w := w') (b := b6) (x := .int .i64 g.seg) (y := .slice q1 g.ws.length m1) (z := .slice q2 g.ks.length m2) (p := .slice q3 g.vs.length m3) (q := .slice q4 g.cs.length m4) (r := .int .u64 g.laid) k0 k1 k2 k3 k4 k5)
   have HT := hid (six_stT hh6 (.int .i64 g.seg) (.slice q1 g.ws.length m1) (.slice q2 g.ks.length m2) (.slice q3 g.vs.length m3) (.slice q4 g.cs.length m4) (.int .u64 g.laid))
   have HK := hid hK
   have HJ := hid hJ
   have HH := hid (And.intro h6 h5)
   clear hK ev hd hJ h6 h5 hh6 o1 o2 o3 o4
   go_simp
   exact HK.out _ _ (fun _ => rfl) ((((((HJ.out.setCell (by dsimp only; omega) _).setCell (by dsimp only; omega) _).setCell (by dsimp only; omega) _).setCell (by dsimp only; omega) _).setCell (by dsimp only; omega) _).setCell (by dsimp only; omega) _) ⟨trivial, fun _ => ⟨b6, _, HH.out.1, hz6, by simp only [World.size_setCell]; exact hlt, HH.out.2, HS.out⟩⟩ ⟨fun h => absurd rfl h, fun _ => HT.out⟩
 case fin =>
 intro u' w5 hJ hG
 clear c_d0 c_d1 c_d2 c_d3 c_d4 c_d5
 obtain ⟨v1, v2, v3, v4, h5, p1, p2, p3, p4⟩ : (FactR.sl w4.heap.size g).holds (u' 24) w5 := (hG 5 _ rfl).1
 have h6 : u' 25 = .int .i64 0 := (hG 6 _ rfl).1
 obtain ⟨bg, cs, h7, hb0, hb1, hx, hpb⟩ : boxL w4.heap.size 5 24 u' w5 := (hG 8 _ rfl).2 rfl
 rw [h5] at hx
 cases hx
 have HB5 := xv hJ HB4
 obtain ⟨e1, l1, rfl, i1, -, -, -, -⟩ := row_of_owns p1
 obtain ⟨e2, l2, rfl, i2, -, -, -, -⟩ := row_of_owns p2
 obtain ⟨e3, l3, rfl, i3, -, -, -, -⟩ := row_of_owns p3
 obtain ⟨e4, l4, rfl, i4, -, -, hcc, -⟩ := row_of_owns p4
 have HOg := hid p2
 have HN5 : Hid (SlIn w5 g ⟨e1, e2, e3, e4, l1, l2, l3, l4⟩) := hid ⟨i1, i2, i3, i4, HU.out.2.2⟩
 have HCG := hid hcc
 have P_g := hid hpb
 replace P_s := hid (pb_below hJ P_s.out xo)
 replace P_d := hid (pb_below hJ P_d.out xo)
 replace HOd := hid (owns_below HOd.out hJ)
 have hJz5 := hJ.size
 clear p1 p2 p3 p4 i1 i2 i3 i4 hcc hJ hG hpb
 simp only [mixFrame, mixL, dstsOf, List.take_succ_cons, List.take_zero, List.filterMap_cons, List.filterMap_nil, List.contains_cons, List.contains_nil, Nat.reduceBEq, Bool.or_false, Bool.false_or, Bool.or_true, Bool.true_or, if_true, if_false, Bool.false_eq_true, Nat.reduceAdd, Nat.zero_add, List.drop_succ_cons, List.drop_zero, h5, h6, h7]
 clear h5 h6 h7
 go_upto_region 4 with (fail)
 obtain ⟨gd, kd, hee, -, -⟩ := owns_at HOd.out hd1
 cases hee
 obtain ⟨gg, kg, hee, -, -⟩ := owns_at HOg.out xo
 cases hee
 have r0 := (own_cells HOd.out (j := 0) hd1).1
 have r1 := (own_cells HOg.out (j := 0) xo).1
 have r2 := (own_cells HOg.out (j := 2) hg1).1
 rw [HK.out.1] at r0
 rw [HK.out.2.1] at r1
 rw [HK.out.2.2] at r2
 have y0 : (0 : Int) < (d.ks.length : Int) := xo
 have y1 : (0 : Int) < (g.ks.length : Int) := xo
 have y2 : (2 : Int) < (g.ks.length : Int) := xo
 have c_s0 := P_s.out 0 _ rfl
 have c_s1 := P_s.out 1 _ rfl
 have c_s2 := P_s.out 2 _ rfl
 have c_s3 := P_s.out 3 _ rfl
 have c_s4 := P_s.out 4 _ rfl
 have c_s5 := P_s.out 5 _ rfl
 have c_d0 := P_d.out 0 _ rfl
 have c_d1 := P_d.out 1 _ rfl
 have c_d2 := P_d.out 2 _ rfl
 have c_d3 := P_d.out 3 _ rfl
 have c_d4 := P_d.out 4 _ rfl
 have c_d5 := P_d.out 5 _ rfl
 have c_g0 := P_g.out 0 _ rfl
 have c_g1 := P_g.out 1 _ rfl
 have c_g2 := P_g.out 2 _ rfl
 have c_g3 := P_g.out 3 _ rfl
 have c_g4 := P_g.out 4 _ rfl
 have c_g5 := P_g.out 5 _ rfl
 clear HOd HOg HN5
 go_wp2
 go_ret
 exact ⟨rfl, HB5.out⟩
theorem alive9_ok (w : World) (hT : TabAt w) : Calls Tryd.prog 7 #[] w (AnsB w (.bool true)) := by
 have hn : cfE chG = 0 ∧ (newC chG).ks.length = 16 := by decide +kernel
 have h1 : putE chG (newC chG) 0 = 0 ∧ (putC chG (newC chG) 0 (5, 0)).ks.length = 16 ∧ (putC chG (newC chG) 0 (5, 0)).ks.getD 0 0 = 5 ∧ (putC chG (newC chG) 0 (5, 0)).laid = 1 := by decide +kernel
 have h2 : putE chG (putC chG (newC chG) 0 (5, 0)) 1 = 0 ∧ (putC chG (putC chG (newC chG) 0 (5, 0)) 1 (9, 0)).ks.length = 16 ∧ (putC chG (putC chG (newC chG) 0 (5, 0)) 1 (9, 0)).ks.getD 0 0 = 5 ∧ (putC chG (putC chG (newC chG) 0 (5, 0)) 1 (9, 0)).ks.getD 2 0 = 9 ∧ (putC chG (putC chG (newC chG) 0 (5, 0)) 1 (9, 0)).laid = 3 := by decide +kernel
 have n0 := new_nums9 chG
 have n1 := put_nums chG (newC chG) n0.2.2.2.2 0 (5, 0)
 have n2 := put_nums chG (putC chG (newC chG) 0 (5, 0)) n1.2.2.2.2 1 (9, 0)
 exact alive9_core chG (newC chG) (putC chG (newC chG) 0 (5, 0)) (putC chG (putC chG (newC chG) 0 (5, 0)) 1 (9, 0)) hn.2 h1.2.1 h2.2.1 h1.2.2.1 h2.2.2.1 h2.2.2.2.1 h1.2.2.2 h2.2.2.2.2 n0.2.2.2.2 n1.2.2.2.2 n2.2.2.2.2 w
   (hid fun W => chap9_ok W)
   (hid fun W => by have := gapNew_ok chG W; rwa [hn.1] at this)
   (hid fun W sa hb hi hc => by have := gapPut_ok chG (newC chG) sa xo xo hc 0 5 0 W hi (hT.below hb); rwa [h1.1] at this)
   (hid fun W sa hb hi hc => by have := gapPut_ok chG (putC chG (newC chG) 0 (5, 0)) sa xo xo hc 1 9 0 W hi (hT.below hb); rwa [h2.1] at this)
end
end Go.Proofs.YtookgoidlnlckaaDoor
