/- Merged: DenW, GapRes, GcPlain. -/
import Derived.Test.YtookgoidlnlckaaDoorGapCostP27
import Derived.Test.YtookgoidlnlckaaDoorGapCostP20
import Derived.Test.YtookgoidlnlckaaDoorGapCostP29
import Derived.Test.YtookgoidlnlckaaDoorGapCostP22
namespace Go.Proofs.YtookgoidlnlckaaDoor
set_option maxRecDepth 100000
set_option maxHeartbeats 40000000
set_option linter.unusedVariables false
set_option linter.unusedSimpArgs false
section
open Go.RowKit
theorem wide_den {c : Cfg} {n a H : Nat} (k : CapC c n a H) (laid : Int) {L : List (Int × Int)} (hL : L.length ≤ n) (hmost : (L.length : Int) ≤ c.most) (ok : okW c n H H (L.length : Int)) : gapE c (wideC (2 ^ a) (2 ^ H) laid L) = 0 := by
 unfold wideC
 have hn : n = 2 ^ a * 2 ^ H := by have := k.all; omega
 have ha4 : 2 ^ 2 ≤ 2 ^ a := Nat.pow_le_pow_right xo k.a2
 have ha6 : 2 ^ a ≤ 2 ^ 6 := Nat.pow_le_pow_right xo k.a6
 have g := emptyL_gd (S := 2 ^ a) (M := 2 ^ H) xo xo (Nat.two_pow_pos H) k.big laid
 subst hn
 have hall := cnt_all g (Nat.zero_le _) (Nat.le_refl _) (L := L) xo
 refine gapE_den k (g.sp (Nat.zero_le _) (Nat.le_refl _) xo) ?_ fun j hj i hi => ?_
 · rw [hall]; exact hmost
 · unfold cntH
   have e : 2 ^ a * 2 ^ H = 2 ^ (H - j) * 2 ^ (a + j) := by rw [← Nat.pow_add, ← Nat.pow_add]; congr 1; omega
   rcases Nat.eq_or_lt_of_le hj with q | q
   · subst q
     have : i = 0 := by rw [Nat.sub_self] at hi; simpa using hi
     subst this
     rw [Nat.zero_mul, Nat.zero_add, Nat.one_mul, Nat.pow_add]
     rw [hall]
     exact ok
   · obtain ⟨x, ex, x1, x2⟩ := cnt_part (lo := 0) (w := 2 ^ (a + j)) (P := 2 ^ (H - j)) (q := i) g (by rw [Nat.zero_add, ← e]; exact Nat.le_refl _) (by rw [← e]; exact hL) (Nat.two_pow_pos _) (Nat.two_pow_pos _) hi
     simp only [Nat.zero_add] at ex
     rw [← e] at ex
     rw [ex]
     exact ok_share k q (Nat.le_refl _) ok x1 x2
theorem CapC.wtop {c : Cfg} {size : Int} {a H : Nat} (k : CapC c size a H) : wdC c H = size := by rw [wdC, k.seg, k.all]; push_cast; rfl
theorem ful_top {c : Cfg} {size : Int} {a H : Nat} (k : CapC c size a H) {m : Int} (h : m * c.den ≤ c.rh * size) : fulB c H H m = true := by
 unfold fulB
 rw [k.wtop]
 split
 · rw [decide_eq_true_eq, Int.mul_comm size]; exact h
 · rw [decide_eq_true_eq, Int.sub_self, Int.mul_zero, Int.zero_add, Int.mul_right_comm, ← Int.mul_assoc, Int.mul_comm size]
   exact Int.mul_le_mul_of_nonneg_right h xo
theorem spr_top {c : Cfg} {size : Int} {a H : Nat} (k : CapC c size a H) {m : Int} (h : size = c.least ∨ size * c.rl ≤ (m + 1) * c.den) : sprB c size H H m = true := by
 rw [sprB_or]
 rcases h with h | h
 · exact .inl h
 · right
   unfold sprN
   rw [k.wtop, Int.sub_self, Int.mul_zero, Int.zero_add, Int.mul_right_comm, ← Int.mul_assoc]
   exact Int.mul_le_mul_of_nonneg_right h xo
theorem takF_min (c : Cfg) (n : Int) : ∀ (k : Nat) (size : Int), 0 ≤ size → takF c n k size = size ∨ ∃ t, takF c n k size = 2 * t ∧ 0 ≤ t ∧ c.rh * t < n * c.den
  | 0, size, _ => .inl rfl
  | k + 1, size, h0 => by
   rw [takF]
   split
   · rename_i h
     rcases takF_min c n k (2 * size) xo with e | ⟨t, e, h1, h2⟩
     · exact .inr ⟨size, e, h0, h⟩
     · exact .inr ⟨t, e, h1, h2⟩
   · exact .inl rfl
theorem takF_mono {c : Cfg} {n m : Int} (hd : 0 ≤ c.den) (hnm : n ≤ m) : ∀ (k : Nat) (size : Int), 0 ≤ size → takF c n k size ≤ takF c m k size
  | 0, size, _ => Int.le_refl _
  | k + 1, size, h0 => by
   have h1 := Int.mul_le_mul_of_nonneg_right hnm hd
   have hb := (takF_bd (c := c) (n := m) (k + 1) size h0).1
   rw [takF]
   split
   · rename_i h
     rw [takF, if_pos xo]
     exact takF_mono hd hnm k (2 * size) xo
   · exact hb
theorem cap_taks {c : Cfg} {a : Nat} (hm : cfMay c = true) (hs : c.seg = ((2 ^ a : Nat) : Int)) {n : Nat} (hn : (n : Int) ≤ c.most) : ∃ H, CapC c (taks c n) a H ∧ okW c (taks c n) H H n ∧ (n : Int) ≤ taks c n := by
 have hd := cfMay_head hm
 obtain ⟨d0, d1, d2, d3, d4, d5, d6, d7, d8, d9, d10, d11, d12, d13, d14, d15, d16, d17⟩ := cfHead_num hd
 obtain ⟨H', e, hb, hle⟩ := cap_nat hd hs (n := (n : Int)) xo xo
 have tb := taks_bd hd (n := (n : Int)) xo xo
 have hp : powB (taks c n) c.least (taks c c.most) = true := by
  refine powB_iff.2 ⟨tb.2.2, takF_mono xo hn 20 c.least xo, ?_⟩
  rw [e, ← Nat.pow_add]; exact pwB_two _
 obtain ⟨a', H, k⟩ := capC_of hm hp
 have haa : a' = a := by
  have h1 := k.seg
  rw [hs] at h1
  have h2 : 2 ^ a = 2 ^ a' := xo
  exact Nat.le_antisymm ((Nat.pow_le_pow_iff_right (a := 2) xo).1 xo) ((Nat.pow_le_pow_iff_right (a := 2) xo).1 xo)
 subst haa
 refine ⟨H, k, ⟨ful_top k ?_, spr_top k ?_⟩, hle⟩
 · exact takF_takes (c := c) (n := (n : Int)) xo 20 c.least xo (tak_start xo xo xo d8 d9).1
 · rcases takF_min c n 20 c.least xo with q | ⟨t, q, h1, h2⟩
   · exact .inl q
   · right
     have e1 : taks c n = 2 * t := q
     rw [e1]
     have h3 : 4 * c.rl ≤ c.rh := xo
     have h4 := Int.mul_le_mul_of_nonneg_right h3 h1
     have h5 : 2 * t * c.rl ≤ 4 * c.rl * t := by
      have : 0 ≤ c.rl * t := Int.mul_nonneg xo h1
      have e2 : 2 * t * c.rl = 2 * (c.rl * t) := by rw [Int.mul_assoc, Int.mul_comm t]
      have e3 : 4 * c.rl * t = 4 * (c.rl * t) := Int.mul_assoc ..
      omega
     have h6 : (n : Int) * c.den ≤ ((n : Int) + 1) * c.den := Int.mul_le_mul_of_nonneg_right xo xo
     omega
theorem capM_pow {c : Cfg} {a H : Nat} {n : Nat} (k : CapC c (taks c n) a H) : capM c n = 2 ^ H := by
 rw [capM, k.all, k.seg, Int.toNat_natCast, Int.toNat_natCast, Nat.mul_div_cancel_left _ (Nat.two_pow_pos a)]
theorem cap_den {c : Cfg} {a : Nat} (hm : cfMay c = true) (hs : c.seg = ((2 ^ a : Nat) : Int)) (laid : Int) {L : List (Int × Int)} (hn : (L.length : Int) ≤ c.most) : gapE c (wideC (2 ^ a) (capM c L.length) laid L) = 0 := by
 obtain ⟨H, k, ok, hle⟩ := cap_taks hm hs hn
 rw [capM_pow k]
 have e := k.all
 generalize taks c L.length = size at *
 subst e
 exact wide_den k laid xo hn ok
theorem nar_den {c : Cfg} {m : Nat} : ∀ (f : Nat) (size : Int) (a H : Nat), CapC c size a H → H < f → (m : Int) ≤ size → (m : Int) * c.den ≤ c.rh * size → ∃ H', H' ≤ H ∧ CapC c (narF c m f size) a H' ∧ (m : Int) ≤ narF c m f size ∧ okW c (narF c m f size) H' H' m
  | 0, _, _, _, _, h, _, _ => by omega
  | f + 1, size, a, H, k, h, hm, hf => by
   rw [narF, k.hgt]
   cases hs : sprB c size H H m with
   | true => rw [if_pos rfl]; exact ⟨H, Nat.le_refl _, k, hm, ful_top k hf, hs⟩
   | false =>
    rw [if_neg (by decide)]
    obtain ⟨H', rfl, k', h8⟩ := nar_step k hs
    obtain ⟨d0, d1, d2, d3, d4, d5, d6, d7, d8, d9, d10, d11, d12, d13, d14, d15, d16, d17⟩ := cfHead_num (cfMay_head k.may)
    obtain ⟨H2, q1, q2, q3, q4⟩ := nar_den (m := m) f (size / 2) a H' k' xo xo (by
     have h1 : (m : Int) * c.den ≤ (m : Int) * (2 * c.rh) := Int.mul_le_mul_of_nonneg_left xo xo
     have h2 : c.rh * (2 * (m : Int)) ≤ c.rh * (size / 2) := Int.mul_le_mul_of_nonneg_left xo xo
     have e : (m : Int) * (2 * c.rh) = c.rh * (2 * (m : Int)) := by rw [Int.mul_comm, Int.mul_comm 2, Int.mul_assoc]
     omega)
    exact ⟨H2, by omega, q2, q3, q4⟩
end
section
open Go.RowKit
def delL (l : List (Int × Int)) (k : Nat) : List (Int × Int) := l.take k ++ l.drop (k + 1)
theorem del_mid (A B : List (Int × Int)) (x : Int × Int) : delL (A ++ x :: B) A.length = A ++ B := by
 unfold delL
 rw [List.take_left, show A ++ x :: B = (A ++ [x]) ++ B by simp, show A.length + 1 = (A ++ [x]).length by simp, List.drop_left]
theorem ful_low {c : Cfg} {size : Int} {a H : Nat} (k : CapC c size a H) {m : Int} (h : fulB c H H m = true) : m * c.den ≤ c.rh * size := by
 unfold fulB at h
 rw [k.wtop] at h
 rw [Int.mul_comm c.rh]
 split at h
 · rw [decide_eq_true_eq] at h; exact h
 · rename_i hH
   rw [decide_eq_true_eq, Int.sub_self, Int.mul_zero, Int.zero_add, Int.mul_right_comm, ← Int.mul_assoc] at h
   exact Int.le_of_mul_le_mul_right h xo
theorem wide_prs {S M : Nat} (h4 : 4 ≤ S) (h6 : S ≤ 64) (hM : 1 ≤ M) (hm : S * M ≤ 65536) (laid : Int) {L : List (Int × Int)} (hL : L.length ≤ S * M) : (wideC S M laid L).ks.length = S * M ∧ prs (wideC S M laid L) 0 (S * M) = L := by
 have g := emptyL_gd h4 h6 hM hm laid
 exact ⟨(g.sp (Nat.zero_le _) (Nat.le_refl _) xo).elk, sp_in g (Nat.zero_le _) (Nat.le_refl _) xo⟩
theorem put_res {c : Cfg} {s : SlC} (hu : U64s s.ws) {k : Int} (p : Int × Int) (h : putE c s k = 0) :
    gapE c (putC c s k p) = 0 ∧ prs (putC c s k p) 0 (putC c s k p).ks.length = insL (prs s 0 s.ks.length) k.toNat p := by
 obtain ⟨h0, k0, k1, k2⟩ := put_zero h
 obtain ⟨hc, a, H, kn, hs, hmost, hden⟩ := gap_zero h0
 rw [sum_many kn hu] at hmost
 have hlt : (manyC s : Int) < c.most := xo
 obtain ⟨g, hlw⟩ := gapN_gd kn hu
 obtain ⟨p1, p2, p3, p4, p5, p6⟩ := kn.pows
 obtain ⟨n, rfl⟩ : ∃ n : Nat, k = n := ⟨k.toNat, by omega⟩
 have hn : n ≤ manyC s := xo
 have hat := homeC_lt p5 n
 rw [putC, if_pos h, sgL_eq kn.cap.seg, kn.cap.hgt, Int.toNat_natCast]
 unfold putN
 by_cases ht : topI (ovB c s a H (homeC s n)) (H + 1) = H
 · rw [if_pos ht]
   have hLn : (prs s 0 s.ks.length).length = manyC s := prs_length _ _ _
   have hil : (insL (prs s 0 s.ks.length) n p).length = manyC s + 1 := by rw [insL_length (by rw [hLn]; exact hn), hLn]
   have hcap := cap_facts kn (n := manyC s + 1) xo
   have hd := cap_den hc kn.cap.seg s.laid (L := insL (prs s 0 s.ks.length) n p) (by rw [hil]; omega)
   rw [hil] at hd
   obtain ⟨w1, w2⟩ := wide_prs p1 p2 hcap.2.2.1 hcap.2.2.2.1 s.laid (L := insL (prs s 0 s.ks.length) n p) (by rw [hil]; exact hcap.2.2.2.2.1)
   exact ⟨hd, by rw [w1]; exact w2⟩
 · rw [if_neg ht]
   obtain ⟨h', eh, hh, hroom⟩ := put_room kn hu hat ht
   have hht : (topI (ovB c s a H (homeC s n)) (H + 1) + 1).toNat = h' := xo
   simp only [hht]
   have b := wnd_bd (a := a) (at_ := homeC s n) hh (by rw [← kn.nk]; exact hat)
   have hhi : (wnd a h' (homeC s n) + 1) * 2 ^ (a + h') ≤ s.ks.length := by rw [kn.nk]; exact b.2.2.2
   obtain ⟨q1, q2⟩ := home_in p5 hn b.2.1 b.2.2.1 hhi
   have hil := insL_length q2 p
   have hpl := prs_length s (wnd a h' (homeC s n) * 2 ^ (a + h')) ((wnd a h' (homeC s n) + 1) * 2 ^ (a + h'))
   have eww : (wnd a h' (homeC s n) + 1) * 2 ^ (a + h') = wnd a h' (homeC s n) * 2 ^ (a + h') + 2 ^ (a + h') := Nat.succ_mul _ _
   have hlh : wnd a h' (homeC s n) * 2 ^ (a + h') ≤ (wnd a h' (homeC s n) + 1) * 2 ^ (a + h') := xo
   have hd := put_den kn hu hden hlt hat eh hh (L := insL (prs s (wnd a h' (homeC s n) * 2 ^ (a + h')) ((wnd a h' (homeC s n) + 1) * 2 ^ (a + h'))) (n - cntW s.ws 0 (wnd a h' (homeC s n) * 2 ^ (a + h'))) p) (by rw [hil, hpl]; rfl) (by rw [hil, hpl]; exact hroom)
   refine ⟨hd, ?_⟩
   generalize wnd a h' (homeC s n) * 2 ^ (a + h') = lo at *
   generalize (wnd a h' (homeC s n) + 1) * 2 ^ (a + h') = hi at *
   have hL : (insL (prs s lo hi) (n - cntW s.ws 0 lo) p).length ≤ hi - lo := by rw [hil, hpl]; omega
   rw [(g.sp hlh hhi hL).elk, prs_sp g hlh hhi hL, prs_app s (Nat.zero_le lo) (Nat.le_trans hlh hhi), prs_app s hlh hhi, ← List.append_assoc]
   have e0 := prs_length s 0 lo
   rw [insL_mid (A := prs s 0 lo) (B := prs s lo hi) (C := prs s hi s.ks.length) (by rw [e0]; exact q1) (by rw [e0]; exact q2), e0]
theorem take_res {c : Cfg} {s : SlC} (hu : U64s s.ws) {k : Int} (h : takE c s k = 0) :
    gapE c (takC c s k) = 0 ∧ prs (takC c s k) 0 (takC c s k).ks.length = delL (prs s 0 s.ks.length) k.toNat := by
 obtain ⟨h0, k0, k1⟩ := take_zero h
 obtain ⟨hc, a, H, kn, hs, hmost, hden⟩ := gap_zero h0
 rw [sum_many kn hu] at hmost
 obtain ⟨g, hlw⟩ := gapN_gd kn hu
 obtain ⟨p1, p2, p3, p4, p5, p6⟩ := kn.pows
 obtain ⟨n, rfl⟩ : ∃ n : Nat, k = n := ⟨k.toNat, by omega⟩
 have hn : n < (plsW s.ws 0 s.ks.length).length := by rw [plsW_length]; unfold manyC at k1; omega
 obtain ⟨hr, hbit, hat⟩ := pls_rank hn
 rw [takC, if_pos h, sgL_eq kn.cap.seg, kn.cap.hgt, Int.toNat_natCast]
 unfold takN
 generalize (plsW s.ws 0 s.ks.length).getD n 0 = at_ at *
 obtain ⟨kz, gz, zl, t1, t2, hzm⟩ := take_in kn hu hat hbit
 obtain ⟨d1, d2⟩ := take_den kn hu hden hmost hat hbit
 obtain ⟨r1, r2⟩ := prs_tk_all g hat hbit
 have e0 := prs_length s 0 at_
 have hdel : delL (prs s 0 s.ks.length) n = prs (tkC s at_) 0 s.ks.length := by
  rw [r1, r2, ← hr, ← e0]
  exact del_mid _ _ _
 have hfz : (manyC (tkC s at_) : Int) * c.den ≤ c.rh * (s.ks.length : Int) := by
  have htop := ((denB_iff g).1 hden H (Nat.le_refl _) 0 (by rw [Nat.sub_self]; exact Nat.one_pos)).1
  have e : cntH s.ws a H 0 = manyC s := by
   rw [cntH, manyC, Nat.zero_mul, Nat.zero_add, Nat.one_mul, Nat.pow_add, kn.nk]
  rw [e] at htop
  have hf := ful_low kn.cap htop
  have d0 := cfHead_num (cfMay_head hc)
  have : (manyC (tkC s at_) : Int) * c.den ≤ (manyC s : Int) * c.den := Int.mul_le_mul_of_nonneg_right xo xo
  omega
 dsimp only
 generalize tkC s at_ = z at *
 obtain ⟨z1, z2, z3, z4, z5, z6⟩ := kz.pows
 rw [← zl] at hfz gz
 rw [hdel, ← zl]
 by_cases ht1 : topI (unfB c z a H at_) (H + 1) = -1
 · rw [if_pos ht1]; exact ⟨d1 ht1, rfl⟩
 · rw [if_neg ht1]
   by_cases ht : topI (unfB c z a H at_) (H + 1) = H
   · rw [if_pos ht]
     have hLn : (prs z 0 z.ks.length).length = manyC z := prs_length _ _ _
     have hcn : manyC z ≤ z.ks.length := by have := cntW_le z.ws 0 z.ks.length; unfold manyC; omega
     obtain ⟨H', n1, n2, n3, n4⟩ := nar_den (m := manyC z) 20 z.ks.length a H kz.cap xo xo hfz
     have hnar : narF c (manyC z) 20 z.ks.length = ((2 ^ a * 2 ^ H' : Nat) : Int) := n2.all
     have hbig := n2.big
     have hdiv : (narF c (manyC z) 20 z.ks.length).toNat / 2 ^ a = 2 ^ H' := by rw [hnar, Int.toNat_natCast, Nat.mul_div_cancel_left _ xo]
     rw [hdiv]
     rw [hnar] at n2 n3 n4
     have hle : manyC z ≤ 2 ^ a * 2 ^ H' := xo
     obtain ⟨w1, w2⟩ := wide_prs p1 p2 (Nat.two_pow_pos H') hbig z.laid (L := prs z 0 z.ks.length) (by rw [hLn]; exact hle)
     refine ⟨wide_den n2 z.laid (by rw [hLn]; exact hle) (by rw [hLn]; omega) (by rw [hLn]; exact n4), by rw [w1]; exact w2⟩
   · rw [if_neg ht]
     obtain ⟨h', eh, hh⟩ : ∃ h' : Nat, topI (unfB c z a H at_) (H + 1) + 1 = h' ∧ h' ≤ H := by
      have := topI_bd (unfB c z a H at_) (H + 1)
      exact ⟨(topI (unfB c z a H at_) (H + 1) + 1).toNat, by omega, by omega⟩
     have hht : (topI (unfB c z a H at_) (H + 1) + 1).toNat = h' := xo
     simp only [hht]
     have b := wnd_bd (a := a) (at_ := at_) hh (by rw [← kz.nk]; omega)
     have hhi : (wnd a h' at_ + 1) * 2 ^ (a + h') ≤ z.ks.length := by rw [kz.nk]; exact b.2.2.2
     have eww : (wnd a h' at_ + 1) * 2 ^ (a + h') = wnd a h' at_ * 2 ^ (a + h') + 2 ^ (a + h') := Nat.succ_mul _ _
     have hlh : wnd a h' at_ * 2 ^ (a + h') ≤ (wnd a h' at_ + 1) * 2 ^ (a + h') := xo
     have hpl := prs_length z (wnd a h' at_ * 2 ^ (a + h')) ((wnd a h' at_ + 1) * 2 ^ (a + h'))
     have hc2 := cntW_le z.ws (wnd a h' at_ * 2 ^ (a + h')) ((wnd a h' at_ + 1) * 2 ^ (a + h'))
     have hd := d2 h' eh hh (prs z (wnd a h' at_ * 2 ^ (a + h')) ((wnd a h' at_ + 1) * 2 ^ (a + h'))) (by rw [hpl]; rfl) (by rw [hpl]; omega)
     refine ⟨hd, ?_⟩
     generalize wnd a h' at_ * 2 ^ (a + h') = lo at *
     generalize (wnd a h' at_ + 1) * 2 ^ (a + h') = hi at *
     have hL : (prs z lo hi).length ≤ hi - lo := by rw [hpl]; exact hc2
     rw [(gz.sp hlh hhi hL).elk, prs_sp gz hlh hhi hL, prs_app z (Nat.zero_le lo) (Nat.le_trans hlh hhi), prs_app z hlh hhi, ← List.append_assoc]
end
section
open Go.RowKit
theorem wrap_sub64 (x : Int) (k : Nat) : IntKind.u64.wrap (IntKind.u64.wrap (x + (k : Int)) - x) = IntKind.u64.wrap (k : Int) := by
 simp only [IntKind.wrap, IntKind.signed, IntKind.bits]
 simp
 omega
theorem part9_ok {c : Cfg} {z : SlC} {a H : Nat} (kz : GapN c z a H) (hs : z.seg = c.seg) (hzu : U64s z.ws) (za : SlA) (at_ : Nat) (hat : at_ < z.ks.length) (mo : Int) (hmo : mo = 1 ∨ mo = 0) (w : World) (hin : SlIn w z za) :
    Calls Tryd.prog 11 #[.agg #[.int .u8 c.tag, .int .i64 c.most, .int .i64 c.seg, .int .i64 c.least, .int .i64 c.den, .int .i64 c.ll, .int .i64 c.rl, .int .i64 c.rh, .int .i64 c.lh], slV z za, .int .i64 at_, .int .i64 mo] w (PartP w a at_ H mo (topI (fun h => if mo = 1 then ovB c z a H at_ h else unfB c z a H at_ h) (H + 1))) := by
 obtain ⟨z1, z2, z3, z4, z5, z6⟩ := kz.pows
 obtain ⟨g, hlw⟩ := gapN_gd kz hzu
 have hew := g.elw
 refine part_core c z.seg _ _ _ _ _ _ _ _ _ _ _ _ _ a H at_ mo hmo z6 _ (fun h => inH z a h at_) (fun h hh => by have := inH_bd kz hzu hh hat; omega) w (hid fun W hb => ?_) (hid fun h hh W hb => ?_) (hid fun h hh => ?_) (hid fun h hh => ?_)
 · have := Path_ok z.seg z.ks.length a H (kz.win hs) at_ xo W
   rwa [hs] at this
 · have b := wnd_bd (a := a) hh (by rw [← kz.nk]; exact hat)
   have ehi : ((wnd a h at_ * 2 ^ (a + h) : Nat) : Int) + ((2 ^ (a + h) : Nat) : Int) = (((wnd a h at_ + 1) * 2 ^ (a + h) : Nat) : Int) := by rw [← Int.natCast_add, Nat.succ_mul]
   rw [ehi]
   have := Count_ok za.wa za.wc z.ws hzu z.ks.length (wnd a h at_ * 2 ^ (a + h)) ((wnd a h at_ + 1) * 2 ^ (a + h)) z4 xo (may_w kz) (Nat.mul_le_mul_right _ xo) (by rw [kz.nk]; exact b.2.2.2) W (hin.below hb).w
   rwa [← in_cnt kz hzu hh hat] at this
 · have b := inH_bd kz hzu hh hat
   refine ⟨fulB c H h (inH z a h at_ + mo), inB c h (inH z a h at_ + mo), fun h1 h2 => ?_, fun h1 _ => ?_, fun W hb => Full_ok c z.ks.length a H h kz.cap hh _ xo xo W⟩
   · subst h1
     simp only [if_true, ovB]
     rw [fulB_in kz.cap hh]
     · rfl
     · unfold inB at h2
       by_cases hn : inH z a h at_ + 1 ≤ wdC c h
       · rw [if_pos hn] at h2; exact absurd rfl h2
       · omega
   · subst h1
     simp only [if_true, ovB]
 · have b := inH_bd kz hzu hh hat
   obtain ⟨hwd, -, -, -⟩ := kz.cap.wd hh
   rw [← Nat.pow_add] at hwd
   refine ⟨sprB c z.ks.length H h (inH z a h at_), fun h1 => ?_, fun W hb => Sparse_in c z.ks.length a H h kz.cap hh (inH z a h at_) xo xo W⟩
   subst h1
   simp only [unfB]
   rfl
theorem inH_top {c : Cfg} {s : SlC} {a H at_ : Nat} (k : GapN c s a H) (hu : U64s s.ws) (hat : at_ < s.ks.length) : inH s a H at_ = (manyC s : Int) := by
 rw [in_cnt k hu (Nat.le_refl _) hat]
 have e : wnd a H at_ = 0 := by
  unfold wnd
  exact Nat.div_eq_of_lt (by rw [Nat.pow_add, ← k.nk]; exact hat)
 rw [e, Nat.zero_mul, Nat.zero_add, Nat.one_mul, Nat.pow_add, ← k.nk]
 rfl
def CostR (s X : SlC) (x y : Int) (z : Bool) : Prop := ∃ lo hi : Nat, (z = true → x = lo ∧ y = hi) ∧ (z = false → lo = 0 ∧ hi = X.ks.length) ∧ lo ≤ hi ∧ hi ≤ X.ks.length ∧ IntKind.u64.wrap (X.laid - s.laid) = IntKind.u64.wrap (cntW X.ws lo hi : Nat) ∧ (z == decide (X.ks.length = s.ks.length)) = true
theorem cost_sp {s q : SlC} {S lw n lc lo hi : Nat} {L : List (Int × Int)} (g : SlGd q S lw n lc) (hq : q.laid = s.laid) (hn : s.ks.length = n) (hlo : lo ≤ hi) (hhi : hi ≤ n) (hL : L.length ≤ hi - lo) (h0 : 0 ≤ s.laid) (h1 : s.laid < 18446744073709551616) : CostR s (spC q lo hi L) lo hi true := by
 have e := (g.sp hlo hhi hL).elk
 refine ⟨lo, hi, fun _ => ⟨rfl, rfl⟩, fun h => (by cases h), hlo, by rw [e]; exact hhi, ?_, by rw [e, hn]; simp⟩
 rw [cnt_all g hlo hhi hL, sp_laid _ _ _ _ (by rw [hq]; exact IntWalk.u64_in s.laid ⟨h0, by omega⟩), hq]
 exact wrap_sub64 _ _
theorem cost_wide {s : SlC} {S M : Nat} {L : List (Int × Int)} (h4 : 4 ≤ S) (h6 : S ≤ 64) (hM : 1 ≤ M) (hm : S * M ≤ 65536) (hL : L.length ≤ S * M) (hne : S * M ≠ s.ks.length) (h0 : 0 ≤ s.laid) (h1 : s.laid < 18446744073709551616) (x y : Int) : CostR s (wideC S M s.laid L) x y false := by
 have g := emptyL_gd h4 h6 hM hm s.laid
 have e : (wideC S M s.laid L).ks.length = S * M := (g.sp (Nat.zero_le _) (Nat.le_refl _) xo).elk
 refine ⟨0, S * M, fun h => by (cases h), fun _ => ⟨rfl, e.symm⟩, Nat.zero_le _, by rw [e]; exact Nat.le_refl _, ?_, by rw [e]; simp [hne]⟩
 unfold wideC
 rw [cnt_all g (Nat.zero_le _) (Nat.le_refl _) xo, sp_laid (emptyL S M s.laid) _ _ _ (IntWalk.u64_in s.laid ⟨h0, by omega⟩)]
 exact wrap_sub64 _ _
theorem put_cost {c : Cfg} {s : SlC} {a H : Nat} (kn : GapN c s a H) (hc : cfMay c = true) (hu : U64s s.ws) (hf : (manyC s : Int) < c.most) (h0 : 0 ≤ s.laid) (h1 : s.laid < 18446744073709551616) (n : Nat) (hn : n ≤ manyC s) (p : Int × Int) (x y : Int) (z : Bool) (hr : PartR a (homeC s n) H 1 (topI (ovB c s a H (homeC s n)) (H + 1)) x y z) : CostR s (putN c s a H n p) x y z := by
 obtain ⟨g, hlw⟩ := gapN_gd kn hu
 obtain ⟨p1, p2, p3, p4, p5, p6⟩ := kn.pows
 have hat := homeC_lt p5 n
 unfold putN
 by_cases ht : topI (ovB c s a H (homeC s n)) (H + 1) = H
 · rw [if_pos ht]
   rcases hr with ⟨-, rfl, rfl, rfl⟩ | ⟨e, -⟩ | ⟨h, hh, e, -⟩
   · have hLn : (prs s 0 s.ks.length).length = manyC s := prs_length _ _ _
     have hil : (insL (prs s 0 s.ks.length) n p).length = manyC s + 1 := by rw [insL_length (by rw [hLn]; exact hn), hLn]
     have hcap := cap_facts kn (n := manyC s + 1) xo
     refine cost_wide p1 p2 hcap.2.2.1 hcap.2.2.2.1 (by rw [hil]; exact hcap.2.2.2.2.1) (fun he => ?_) h0 h1 _ _
     obtain ⟨H', k', ok, -⟩ := cap_taks hc kn.cap.seg (n := manyC s + 1) xo
     have e1 : taks c ((manyC s + 1 : Nat) : Int) = (s.ks.length : Int) := by rw [hcap.2.1, he]
     rw [e1] at k' ok
     have e2 : H' = H := by rw [← k'.hgt, kn.cap.hgt]
     subst e2
     have hov : ovB c s a H' (homeC s n) H' = true := by
      rcases topI_cases (ovB c s a H' (homeC s n)) (H' + 1) with ⟨e, -⟩ | ⟨q, hq, e, hp, -⟩
      · omega
      · have : q = H' := xo
        subst this; exact hp
     unfold ovB at hov
     rw [inH_top kn hu hat] at hov
     have := ok.1
     push_cast at this
     rw [this] at hov
     cases hov
   · omega
   · omega
 · rw [if_neg ht]
   obtain ⟨h, eh, hh, hroom⟩ := put_room kn hu hat ht
   have hht : (topI (ovB c s a H (homeC s n)) (H + 1) + 1).toNat = h := xo
   simp only [hht]
   have b := wnd_bd (a := a) (at_ := homeC s n) hh (by rw [← kn.nk]; exact hat)
   have hhi : (wnd a h (homeC s n) + 1) * 2 ^ (a + h) ≤ s.ks.length := by rw [kn.nk]; exact b.2.2.2
   obtain ⟨q1, q2⟩ := home_in p5 hn b.2.1 b.2.2.1 hhi
   have hil := insL_length q2 p
   have hpl := prs_length s (wnd a h (homeC s n) * 2 ^ (a + h)) ((wnd a h (homeC s n) + 1) * 2 ^ (a + h))
   have eww : (wnd a h (homeC s n) + 1) * 2 ^ (a + h) = wnd a h (homeC s n) * 2 ^ (a + h) + 2 ^ (a + h) := Nat.succ_mul _ _
   rcases hr with ⟨e, -⟩ | ⟨-, e, -⟩ | ⟨h2, hh2, e, -, rfl, rfl, rfl⟩
   · exact absurd e ht
   · omega
   · have : h2 = h := xo
     subst this
     have ehi : ((wnd a h2 (homeC s n) * 2 ^ (a + h2) : Nat) : Int) + ((2 ^ (a + h2) : Nat) : Int) = (((wnd a h2 (homeC s n) + 1) * 2 ^ (a + h2) : Nat) : Int) := by rw [← Int.natCast_add, Nat.succ_mul]
     rw [ehi]
     exact cost_sp (s := s) (q := s) (lo := wnd a h2 (homeC s n) * 2 ^ (a + h2)) (hi := (wnd a h2 (homeC s n) + 1) * 2 ^ (a + h2)) (L := insL (prs s (wnd a h2 (homeC s n) * 2 ^ (a + h2)) ((wnd a h2 (homeC s n) + 1) * 2 ^ (a + h2))) (n - cntW s.ws 0 (wnd a h2 (homeC s n) * 2 ^ (a + h2))) p) g rfl rfl xo hhi (by rw [hil, hpl]; omega) h0 h1
theorem take_cost {c : Cfg} {s : SlC} {a H : Nat} (kn : GapN c s a H) (hu : U64s s.ws) (h0 : 0 ≤ s.laid) (h1 : s.laid < 18446744073709551616) (n : Nat) (hn : n < manyC s) (x y : Int) (z : Bool)
    (hr : PartR a ((plsW s.ws 0 s.ks.length).getD n 0) H 0 (topI (unfB c (tkC s ((plsW s.ws 0 s.ks.length).getD n 0)) a H ((plsW s.ws 0 s.ks.length).getD n 0)) (H + 1)) x y z) : CostR s (takN c s a H n) x y z := by
 have hn' : n < (plsW s.ws 0 s.ks.length).length := by rw [plsW_length]; exact hn
 obtain ⟨-, hbit, hat⟩ := pls_rank hn'
 unfold takN
 generalize (plsW s.ws 0 s.ks.length).getD n 0 = at_ at *
 obtain ⟨kz, gz, zl, -, -, hzm⟩ := take_in kn hu hat hbit
 have hzu := gz.u
 have hzl : (tkC s at_).laid = s.laid := rfl
 dsimp only
 generalize tkC s at_ = q at *
 obtain ⟨z1, z2, z3, z4, z5, z6⟩ := kz.pows
 by_cases ht1 : topI (unfB c q a H at_) (H + 1) = -1
 · rw [if_pos ht1]
   rcases hr with ⟨e, -⟩ | ⟨-, -, rfl, rfl, rfl⟩ | ⟨h2, hh2, e, e2, -⟩
   · omega
   · refine ⟨at_, at_, fun _ => ⟨rfl, rfl⟩, fun h => by (cases h), Nat.le_refl _, by omega, ?_, by rw [zl]; simp⟩
     have e3 := cntW_le q.ws at_ at_
     have e4 : cntW q.ws at_ at_ = 0 := xo
     rw [hzl, e4]
     simp
   · exact absurd (e2 ht1) (by decide)
 · rw [if_neg ht1]
   by_cases ht : topI (unfB c q a H at_) (H + 1) = H
   · rw [if_pos ht]
     rcases hr with ⟨-, rfl, rfl, rfl⟩ | ⟨e, -⟩ | ⟨h, hh, e, -⟩
     · have hLn : (prs q 0 q.ks.length).length = manyC q := prs_length _ _ _
       have hcn : manyC q ≤ q.ks.length := by have := cntW_le q.ws 0 q.ks.length; unfold manyC; omega
       obtain ⟨H', n1, n2, n3, n4⟩ := nar_ok (m := manyC q) 20 q.ks.length a H kz.cap xo xo
       have hnar : narF c (manyC q) 20 q.ks.length = ((2 ^ a * 2 ^ H' : Nat) : Int) := n2.all
       have hbig := n2.big
       have hdiv : (narF c (manyC q) 20 q.ks.length).toNat / 2 ^ a = 2 ^ H' := by rw [hnar, Int.toNat_natCast, Nat.mul_div_cancel_left _ xo]
       have hle : manyC q ≤ 2 ^ a * 2 ^ H' := by rw [hnar] at n3; omega
       rw [hdiv, hzl]
       refine cost_wide z1 z2 (Nat.two_pow_pos H') hbig (by rw [hLn]; exact hle) (fun he => ?_) h0 h1 _ _
       have e1 : narF c (manyC q) 20 q.ks.length = (q.ks.length : Int) := by rw [hnar, he, zl]
       rw [e1] at n2 n4
       have e2 : H' = H := by rw [← n2.hgt, kz.cap.hgt]
       subst e2
       have hov : unfB c q a H' at_ H' = true := by
        rcases topI_cases (unfB c q a H' at_) (H' + 1) with ⟨e, -⟩ | ⟨j, hj, e, hp, -⟩
        · omega
        · have : j = H' := xo
          subst this; exact hp
       unfold unfB at hov
       rw [inH_top kz hzu xo, n4] at hov
       cases hov
     · omega
     · omega
   · rw [if_neg ht]
     obtain ⟨h, eh, hh⟩ : ∃ h : Nat, topI (unfB c q a H at_) (H + 1) + 1 = h ∧ h ≤ H := by
      have := topI_bd (unfB c q a H at_) (H + 1)
      exact ⟨(topI (unfB c q a H at_) (H + 1) + 1).toNat, by omega, by omega⟩
     have hht : (topI (unfB c q a H at_) (H + 1) + 1).toNat = h := xo
     simp only [hht]
     have b := wnd_bd (a := a) (at_ := at_) hh (by rw [← kz.nk]; omega)
     have hhi : (wnd a h at_ + 1) * 2 ^ (a + h) ≤ s.ks.length := by rw [← zl, kz.nk]; exact b.2.2.2
     have eww : (wnd a h at_ + 1) * 2 ^ (a + h) = wnd a h at_ * 2 ^ (a + h) + 2 ^ (a + h) := Nat.succ_mul _ _
     have hpl := prs_length q (wnd a h at_ * 2 ^ (a + h)) ((wnd a h at_ + 1) * 2 ^ (a + h))
     have hc2 := cntW_le q.ws (wnd a h at_ * 2 ^ (a + h)) ((wnd a h at_ + 1) * 2 ^ (a + h))
     rcases hr with ⟨e, -⟩ | ⟨e, -⟩ | ⟨h2, hh2, e, -, rfl, rfl, rfl⟩
     · exact absurd e ht
     · exact absurd e ht1
     · have : h2 = h := xo
       subst this
       have ehi : ((wnd a h2 at_ * 2 ^ (a + h2) : Nat) : Int) + ((2 ^ (a + h2) : Nat) : Int) = (((wnd a h2 at_ + 1) * 2 ^ (a + h2) : Nat) : Int) := by rw [← Int.natCast_add, Nat.succ_mul]
       rw [ehi]
       exact cost_sp (s := s) (q := q) (lo := wnd a h2 at_ * 2 ^ (a + h2)) (hi := (wnd a h2 at_ + 1) * 2 ^ (a + h2)) (L := prs q (wnd a h2 at_ * 2 ^ (a + h2)) ((wnd a h2 at_ + 1) * 2 ^ (a + h2))) gz hzl rfl xo hhi (by rw [hpl]; exact hc2) h0 h1
theorem count_res {c : Cfg} {d : SlC} (h : gapE c d = 0) (hu : U64s d.ws) (da : SlA) (lo hi : Nat) (hlo : lo ≤ hi) (hhi : hi ≤ d.ks.length) (w : World) (hin : SlIn w d da) :
    Calls Tryd.prog 12 #[.slice da.wa d.ws.length da.wc, .int .i64 d.ks.length, .int .i64 lo, .int .i64 hi] w (AnsB w (.tuple #[.int .i64 (cntW d.ws lo hi : Nat), .int .i64 0])) := by
 obtain ⟨hc, a, H, kn, -, -, -⟩ := gap_zero h
 obtain ⟨g, hlw⟩ := gapN_gd kn hu
 have hew := g.elw
 exact Count_ok da.wa da.wc d.ws hu d.ks.length lo hi kn.pows.2.2.2.1 xo (may_w kn) hlo hhi w hin.w
end
end Go.Proofs.YtookgoidlnlckaaDoor
