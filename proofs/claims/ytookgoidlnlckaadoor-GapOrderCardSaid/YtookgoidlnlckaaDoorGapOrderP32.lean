/- Merged: DenW, GapRes, SamePr, GapAll. -/
import Derived.Test.YtookgoidlnlckaaDoorGapOrderP29
import Derived.Test.YtookgoidlnlckaaDoorGapOrderP21
import Derived.Test.YtookgoidlnlckaaDoorGapOrderP31
import Derived.Test.YtookgoidlnlckaaDoorGapOrderP11
import Derived.Test.YtookgoidlnlckaaDoorGapOrderP10
import Derived.Test.YtookgoidlnlckaaDoorGapOrderP12
namespace Go.Proofs.YtookgoidlnlckaaDoor
set_option maxRecDepth 100000
set_option maxHeartbeats 40000000
set_option linter.unusedVariables false
set_option linter.unusedSimpArgs false
section
open Go.RowKit
theorem wide_den {c : Cfg} {n a H : Nat} (k : CapC c n a H) (laid : Int) {L : List (Int × Int)} (hL : L.length ≤ n) (hmost : (L.length : Int) ≤ c.most) (ok : okW c n H H (L.length : Int)) : gapE c (wideC (2 ^ a) (2 ^ H) laid L) = 0 := by
 unfold wideC
 have hn : n = 2 ^ a * 2 ^ H := by have := k.all; omega
 have ha4 : 2 ^ 2 ≤ 2 ^ a := Nat.pow_le_pow_right xo k.a2
 have ha6 : 2 ^ a ≤ 2 ^ 6 := Nat.pow_le_pow_right xo k.a6
 have g := emptyL_gd (S := 2 ^ a) (M := 2 ^ H) xo xo (Nat.two_pow_pos H) k.big laid
 subst hn
 have hall := cnt_all g (Nat.zero_le _) (Nat.le_refl _) (L := L) xo
 refine gapE_den k (g.sp (Nat.zero_le _) (Nat.le_refl _) xo) ?_ fun j hj i hi => ?_
 · rw [hall]; exact hmost
 · unfold cntH
   have e : 2 ^ a * 2 ^ H = 2 ^ (H - j) * 2 ^ (a + j) := by rw [← Nat.pow_add, ← Nat.pow_add]; congr 1; omega
   rcases Nat.eq_or_lt_of_le hj with q | q
   · subst q
     have : i = 0 := by rw [Nat.sub_self] at hi; simpa using hi
     subst this
     rw [Nat.zero_mul, Nat.zero_add, Nat.one_mul, Nat.pow_add]
     rw [hall]
     exact ok
   · obtain ⟨x, ex, x1, x2⟩ := cnt_part (lo := 0) (w := 2 ^ (a + j)) (P := 2 ^ (H - j)) (q := i) g (by rw [Nat.zero_add, ← e]; exact Nat.le_refl _) (by rw [← e]; exact hL) (Nat.two_pow_pos _) (Nat.two_pow_pos _) hi
     simp only [Nat.zero_add] at ex
     rw [← e] at ex
     rw [ex]
     exact ok_share k q (Nat.le_refl _) ok x1 x2
theorem CapC.wtop {c : Cfg} {size : Int} {a H : Nat} (k : CapC c size a H) : wdC c H = size := by rw [wdC, k.seg, k.all]; push_cast; rfl
theorem ful_top {c : Cfg} {size : Int} {a H : Nat} (k : CapC c size a H) {m : Int} (h : m * c.den ≤ c.rh * size) : fulB c H H m = true := by
 unfold fulB
 rw [k.wtop]
 split
 · rw [decide_eq_true_eq, Int.mul_comm size]; exact h
 · rw [decide_eq_true_eq, Int.sub_self, Int.mul_zero, Int.zero_add, Int.mul_right_comm, ← Int.mul_assoc, Int.mul_comm size]
   exact Int.mul_le_mul_of_nonneg_right h xo
theorem spr_top {c : Cfg} {size : Int} {a H : Nat} (k : CapC c size a H) {m : Int} (h : size = c.least ∨ size * c.rl ≤ (m + 1) * c.den) : sprB c size H H m = true := by
 rw [sprB_or]
 rcases h with h | h
 · exact .inl h
 · right
   unfold sprN
   rw [k.wtop, Int.sub_self, Int.mul_zero, Int.zero_add, Int.mul_right_comm, ← Int.mul_assoc]
   exact Int.mul_le_mul_of_nonneg_right h xo
theorem takF_min (c : Cfg) (n : Int) : ∀ (k : Nat) (size : Int), 0 ≤ size → takF c n k size = size ∨ ∃ t, takF c n k size = 2 * t ∧ 0 ≤ t ∧ c.rh * t < n * c.den
  | 0, size, _ => .inl rfl
  | k + 1, size, h0 => by
   rw [takF]
   split
   · rename_i h
     rcases takF_min c n k (2 * size) xo with e | ⟨t, e, h1, h2⟩
     · exact .inr ⟨size, e, h0, h⟩
     · exact .inr ⟨t, e, h1, h2⟩
   · exact .inl rfl
theorem takF_mono {c : Cfg} {n m : Int} (hd : 0 ≤ c.den) (hnm : n ≤ m) : ∀ (k : Nat) (size : Int), 0 ≤ size → takF c n k size ≤ takF c m k size
  | 0, size, _ => Int.le_refl _
  | k + 1, size, h0 => by
   have h1 := Int.mul_le_mul_of_nonneg_right hnm hd
   have hb := (takF_bd (c := c) (n := m) (k + 1) size h0).1
   rw [takF]
   split
   · rename_i h
     rw [takF, if_pos xo]
     exact takF_mono hd hnm k (2 * size) xo
   · exact hb
theorem cap_taks {c : Cfg} {a : Nat} (hm : cfMay c = true) (hs : c.seg = ((2 ^ a : Nat) : Int)) {n : Nat} (hn : (n : Int) ≤ c.most) : ∃ H, CapC c (taks c n) a H ∧ okW c (taks c n) H H n ∧ (n : Int) ≤ taks c n := by
 have hd := cfMay_head hm
 obtain ⟨d0, d1, d2, d3, d4, d5, d6, d7, d8, d9, d10, d11, d12, d13, d14, d15, d16, d17⟩ := cfHead_num hd
 obtain ⟨H', e, hb, hle⟩ := cap_nat hd hs (n := (n : Int)) xo xo
 have tb := taks_bd hd (n := (n : Int)) xo xo
 have hp : powB (taks c n) c.least (taks c c.most) = true := by
  refine powB_iff.2 ⟨tb.2.2, takF_mono xo hn 20 c.least xo, ?_⟩
  rw [e, ← Nat.pow_add]; exact pwB_two _
 obtain ⟨a', H, k⟩ := capC_of hm hp
 have haa : a' = a := by
  have h1 := k.seg
  rw [hs] at h1
  have h2 : 2 ^ a = 2 ^ a' := xo
  exact Nat.le_antisymm ((Nat.pow_le_pow_iff_right (a := 2) xo).1 xo) ((Nat.pow_le_pow_iff_right (a := 2) xo).1 xo)
 subst haa
 refine ⟨H, k, ⟨ful_top k ?_, spr_top k ?_⟩, hle⟩
 · exact takF_takes (c := c) (n := (n : Int)) xo 20 c.least xo (tak_start xo xo xo d8 d9).1
 · rcases takF_min c n 20 c.least xo with q | ⟨t, q, h1, h2⟩
   · exact .inl q
   · right
     have e1 : taks c n = 2 * t := q
     rw [e1]
     have h3 : 4 * c.rl ≤ c.rh := xo
     have h4 := Int.mul_le_mul_of_nonneg_right h3 h1
     have h5 : 2 * t * c.rl ≤ 4 * c.rl * t := by
      have : 0 ≤ c.rl * t := Int.mul_nonneg xo h1
      have e2 : 2 * t * c.rl = 2 * (c.rl * t) := by rw [Int.mul_assoc, Int.mul_comm t]
      have e3 : 4 * c.rl * t = 4 * (c.rl * t) := Int.mul_assoc ..
      omega
     have h6 : (n : Int) * c.den ≤ ((n : Int) + 1) * c.den := Int.mul_le_mul_of_nonneg_right xo xo
     omega
theorem capM_pow {c : Cfg} {a H : Nat} {n : Nat} (k : CapC c (taks c n) a H) : capM c n = 2 ^ H := by
 rw [capM, k.all, k.seg, Int.toNat_natCast, Int.toNat_natCast, Nat.mul_div_cancel_left _ (Nat.two_pow_pos a)]
theorem cap_den {c : Cfg} {a : Nat} (hm : cfMay c = true) (hs : c.seg = ((2 ^ a : Nat) : Int)) (laid : Int) {L : List (Int × Int)} (hn : (L.length : Int) ≤ c.most) : gapE c (wideC (2 ^ a) (capM c L.length) laid L) = 0 := by
 obtain ⟨H, k, ok, hle⟩ := cap_taks hm hs hn
 rw [capM_pow k]
 have e := k.all
 generalize taks c L.length = size at *
 subst e
 exact wide_den k laid xo hn ok
theorem nar_den {c : Cfg} {m : Nat} : ∀ (f : Nat) (size : Int) (a H : Nat), CapC c size a H → H < f → (m : Int) ≤ size → (m : Int) * c.den ≤ c.rh * size → ∃ H', H' ≤ H ∧ CapC c (narF c m f size) a H' ∧ (m : Int) ≤ narF c m f size ∧ okW c (narF c m f size) H' H' m
  | 0, _, _, _, _, h, _, _ => by omega
  | f + 1, size, a, H, k, h, hm, hf => by
   rw [narF, k.hgt]
   cases hs : sprB c size H H m with
   | true => rw [if_pos rfl]; exact ⟨H, Nat.le_refl _, k, hm, ful_top k hf, hs⟩
   | false =>
    rw [if_neg (by decide)]
    obtain ⟨H', rfl, k', h8⟩ := nar_step k hs
    obtain ⟨d0, d1, d2, d3, d4, d5, d6, d7, d8, d9, d10, d11, d12, d13, d14, d15, d16, d17⟩ := cfHead_num (cfMay_head k.may)
    obtain ⟨H2, q1, q2, q3, q4⟩ := nar_den (m := m) f (size / 2) a H' k' xo xo (by
     have h1 : (m : Int) * c.den ≤ (m : Int) * (2 * c.rh) := Int.mul_le_mul_of_nonneg_left xo xo
     have h2 : c.rh * (2 * (m : Int)) ≤ c.rh * (size / 2) := Int.mul_le_mul_of_nonneg_left xo xo
     have e : (m : Int) * (2 * c.rh) = c.rh * (2 * (m : Int)) := by rw [Int.mul_comm, Int.mul_comm 2, Int.mul_assoc]
     omega)
    exact ⟨H2, by omega, q2, q3, q4⟩
end
section
open Go.RowKit
def delL (l : List (Int × Int)) (k : Nat) : List (Int × Int) := l.take k ++ l.drop (k + 1)
theorem del_mid (A B : List (Int × Int)) (x : Int × Int) : delL (A ++ x :: B) A.length = A ++ B := by
 unfold delL
 rw [List.take_left, show A ++ x :: B = (A ++ [x]) ++ B by simp, show A.length + 1 = (A ++ [x]).length by simp, List.drop_left]
theorem ful_low {c : Cfg} {size : Int} {a H : Nat} (k : CapC c size a H) {m : Int} (h : fulB c H H m = true) : m * c.den ≤ c.rh * size := by
 unfold fulB at h
 rw [k.wtop] at h
 rw [Int.mul_comm c.rh]
 split at h
 · rw [decide_eq_true_eq] at h; exact h
 · rename_i hH
   rw [decide_eq_true_eq, Int.sub_self, Int.mul_zero, Int.zero_add, Int.mul_right_comm, ← Int.mul_assoc] at h
   exact Int.le_of_mul_le_mul_right h xo
theorem wide_prs {S M : Nat} (h4 : 4 ≤ S) (h6 : S ≤ 64) (hM : 1 ≤ M) (hm : S * M ≤ 65536) (laid : Int) {L : List (Int × Int)} (hL : L.length ≤ S * M) : (wideC S M laid L).ks.length = S * M ∧ prs (wideC S M laid L) 0 (S * M) = L := by
 have g := emptyL_gd h4 h6 hM hm laid
 exact ⟨(g.sp (Nat.zero_le _) (Nat.le_refl _) xo).elk, sp_in g (Nat.zero_le _) (Nat.le_refl _) xo⟩
theorem put_res {c : Cfg} {s : SlC} (hu : U64s s.ws) {k : Int} (p : Int × Int) (h : putE c s k = 0) :
    gapE c (putC c s k p) = 0 ∧ prs (putC c s k p) 0 (putC c s k p).ks.length = insL (prs s 0 s.ks.length) k.toNat p := by
 obtain ⟨h0, k0, k1, k2⟩ := put_zero h
 obtain ⟨hc, a, H, kn, hs, hmost, hden⟩ := gap_zero h0
 rw [sum_many kn hu] at hmost
 have hlt : (manyC s : Int) < c.most := xo
 obtain ⟨g, hlw⟩ := gapN_gd kn hu
 obtain ⟨p1, p2, p3, p4, p5, p6⟩ := kn.pows
 obtain ⟨n, rfl⟩ : ∃ n : Nat, k = n := ⟨k.toNat, by omega⟩
 have hn : n ≤ manyC s := xo
 have hat := homeC_lt p5 n
 rw [putC, if_pos h, sgL_eq kn.cap.seg, kn.cap.hgt, Int.toNat_natCast]
 unfold putN
 by_cases ht : topI (ovB c s a H (homeC s n)) (H + 1) = H
 · rw [if_pos ht]
   have hLn : (prs s 0 s.ks.length).length = manyC s := prs_length _ _ _
   have hil : (insL (prs s 0 s.ks.length) n p).length = manyC s + 1 := by rw [insL_length (by rw [hLn]; exact hn), hLn]
   have hcap := cap_facts kn (n := manyC s + 1) xo
   have hd := cap_den hc kn.cap.seg s.laid (L := insL (prs s 0 s.ks.length) n p) (by rw [hil]; omega)
   rw [hil] at hd
   obtain ⟨w1, w2⟩ := wide_prs p1 p2 hcap.2.2.1 hcap.2.2.2.1 s.laid (L := insL (prs s 0 s.ks.length) n p) (by rw [hil]; exact hcap.2.2.2.2.1)
   exact ⟨hd, by rw [w1]; exact w2⟩
 · rw [if_neg ht]
   obtain ⟨h', eh, hh, hroom⟩ := put_room kn hu hat ht
   have hht : (topI (ovB c s a H (homeC s n)) (H + 1) + 1).toNat = h' := xo
   simp only [hht]
   have b := wnd_bd (a := a) (at_ := homeC s n) hh (by rw [← kn.nk]; exact hat)
   have hhi : (wnd a h' (homeC s n) + 1) * 2 ^ (a + h') ≤ s.ks.length := by rw [kn.nk]; exact b.2.2.2
   obtain ⟨q1, q2⟩ := home_in p5 hn b.2.1 b.2.2.1 hhi
   have hil := insL_length q2 p
   have hpl := prs_length s (wnd a h' (homeC s n) * 2 ^ (a + h')) ((wnd a h' (homeC s n) + 1) * 2 ^ (a + h'))
   have eww : (wnd a h' (homeC s n) + 1) * 2 ^ (a + h') = wnd a h' (homeC s n) * 2 ^ (a + h') + 2 ^ (a + h') := Nat.succ_mul _ _
   have hlh : wnd a h' (homeC s n) * 2 ^ (a + h') ≤ (wnd a h' (homeC s n) + 1) * 2 ^ (a + h') := xo
   have hd := put_den kn hu hden hlt hat eh hh (L := insL (prs s (wnd a h' (homeC s n) * 2 ^ (a + h')) ((wnd a h' (homeC s n) + 1) * 2 ^ (a + h'))) (n - cntW s.ws 0 (wnd a h' (homeC s n) * 2 ^ (a + h'))) p) (by rw [hil, hpl]; rfl) (by rw [hil, hpl]; exact hroom)
   refine ⟨hd, ?_⟩
   generalize wnd a h' (homeC s n) * 2 ^ (a + h') = lo at *
   generalize (wnd a h' (homeC s n) + 1) * 2 ^ (a + h') = hi at *
   have hL : (insL (prs s lo hi) (n - cntW s.ws 0 lo) p).length ≤ hi - lo := by rw [hil, hpl]; omega
   rw [(g.sp hlh hhi hL).elk, prs_sp g hlh hhi hL, prs_app s (Nat.zero_le lo) (Nat.le_trans hlh hhi), prs_app s hlh hhi, ← List.append_assoc]
   have e0 := prs_length s 0 lo
   rw [insL_mid (A := prs s 0 lo) (B := prs s lo hi) (C := prs s hi s.ks.length) (by rw [e0]; exact q1) (by rw [e0]; exact q2), e0]
theorem load_res {c : Cfg} {s : SlC} {L : List (Int × Int)} (h : loadE c s L = 0) :
    gapE c (loadC c s L) = 0 ∧ prs (loadC c s L) 0 (loadC c s L).ks.length = L := by
 obtain ⟨h0, hm⟩ := load_zero h
 obtain ⟨hc, a, H, kn, hs, hmost, hden⟩ := gap_zero h0
 obtain ⟨e1, e2, e3, e4, e5, e6⟩ := cap_facts kn hm
 obtain ⟨p1, p2, p3, p4, p5, p6⟩ := kn.pows
 rw [loadC, if_pos ⟨h0, hm⟩, e1]
 obtain ⟨w1, w2⟩ := wide_prs p1 p2 e3 e4 s.laid e5
 exact ⟨cap_den hc kn.cap.seg s.laid hm, by rw [w1]; exact w2⟩
theorem take_res {c : Cfg} {s : SlC} (hu : U64s s.ws) {k : Int} (h : takE c s k = 0) :
    gapE c (takC c s k) = 0 ∧ prs (takC c s k) 0 (takC c s k).ks.length = delL (prs s 0 s.ks.length) k.toNat := by
 obtain ⟨h0, k0, k1⟩ := take_zero h
 obtain ⟨hc, a, H, kn, hs, hmost, hden⟩ := gap_zero h0
 rw [sum_many kn hu] at hmost
 obtain ⟨g, hlw⟩ := gapN_gd kn hu
 obtain ⟨p1, p2, p3, p4, p5, p6⟩ := kn.pows
 obtain ⟨n, rfl⟩ : ∃ n : Nat, k = n := ⟨k.toNat, by omega⟩
 have hn : n < (plsW s.ws 0 s.ks.length).length := by rw [plsW_length]; unfold manyC at k1; omega
 obtain ⟨hr, hbit, hat⟩ := pls_rank hn
 rw [takC, if_pos h, sgL_eq kn.cap.seg, kn.cap.hgt, Int.toNat_natCast]
 unfold takN
 generalize (plsW s.ws 0 s.ks.length).getD n 0 = at_ at *
 obtain ⟨kz, gz, zl, t1, t2, hzm⟩ := take_in kn hu hat hbit
 obtain ⟨d1, d2⟩ := take_den kn hu hden hmost hat hbit
 obtain ⟨r1, r2⟩ := prs_tk_all g hat hbit
 have e0 := prs_length s 0 at_
 have hdel : delL (prs s 0 s.ks.length) n = prs (tkC s at_) 0 s.ks.length := by
  rw [r1, r2, ← hr, ← e0]
  exact del_mid _ _ _
 have hfz : (manyC (tkC s at_) : Int) * c.den ≤ c.rh * (s.ks.length : Int) := by
  have htop := ((denB_iff g).1 hden H (Nat.le_refl _) 0 (by rw [Nat.sub_self]; exact Nat.one_pos)).1
  have e : cntH s.ws a H 0 = manyC s := by
   rw [cntH, manyC, Nat.zero_mul, Nat.zero_add, Nat.one_mul, Nat.pow_add, kn.nk]
  rw [e] at htop
  have hf := ful_low kn.cap htop
  have d0 := cfHead_num (cfMay_head hc)
  have : (manyC (tkC s at_) : Int) * c.den ≤ (manyC s : Int) * c.den := Int.mul_le_mul_of_nonneg_right xo xo
  omega
 dsimp only
 generalize tkC s at_ = z at *
 obtain ⟨z1, z2, z3, z4, z5, z6⟩ := kz.pows
 rw [← zl] at hfz gz
 rw [hdel, ← zl]
 by_cases ht1 : topI (unfB c z a H at_) (H + 1) = -1
 · rw [if_pos ht1]; exact ⟨d1 ht1, rfl⟩
 · rw [if_neg ht1]
   by_cases ht : topI (unfB c z a H at_) (H + 1) = H
   · rw [if_pos ht]
     have hLn : (prs z 0 z.ks.length).length = manyC z := prs_length _ _ _
     have hcn : manyC z ≤ z.ks.length := by have := cntW_le z.ws 0 z.ks.length; unfold manyC; omega
     obtain ⟨H', n1, n2, n3, n4⟩ := nar_den (m := manyC z) 20 z.ks.length a H kz.cap xo xo hfz
     have hnar : narF c (manyC z) 20 z.ks.length = ((2 ^ a * 2 ^ H' : Nat) : Int) := n2.all
     have hbig := n2.big
     have hdiv : (narF c (manyC z) 20 z.ks.length).toNat / 2 ^ a = 2 ^ H' := by rw [hnar, Int.toNat_natCast, Nat.mul_div_cancel_left _ xo]
     rw [hdiv]
     rw [hnar] at n2 n3 n4
     have hle : manyC z ≤ 2 ^ a * 2 ^ H' := xo
     obtain ⟨w1, w2⟩ := wide_prs p1 p2 (Nat.two_pow_pos H') hbig z.laid (L := prs z 0 z.ks.length) (by rw [hLn]; exact hle)
     refine ⟨wide_den n2 z.laid (by rw [hLn]; exact hle) (by rw [hLn]; omega) (by rw [hLn]; exact n4), by rw [w1]; exact w2⟩
   · rw [if_neg ht]
     obtain ⟨h', eh, hh⟩ : ∃ h' : Nat, topI (unfB c z a H at_) (H + 1) + 1 = h' ∧ h' ≤ H := by
      have := topI_bd (unfB c z a H at_) (H + 1)
      exact ⟨(topI (unfB c z a H at_) (H + 1) + 1).toNat, by omega, by omega⟩
     have hht : (topI (unfB c z a H at_) (H + 1) + 1).toNat = h' := xo
     simp only [hht]
     have b := wnd_bd (a := a) (at_ := at_) hh (by rw [← kz.nk]; omega)
     have hhi : (wnd a h' at_ + 1) * 2 ^ (a + h') ≤ z.ks.length := by rw [kz.nk]; exact b.2.2.2
     have eww : (wnd a h' at_ + 1) * 2 ^ (a + h') = wnd a h' at_ * 2 ^ (a + h') + 2 ^ (a + h') := Nat.succ_mul _ _
     have hlh : wnd a h' at_ * 2 ^ (a + h') ≤ (wnd a h' at_ + 1) * 2 ^ (a + h') := xo
     have hpl := prs_length z (wnd a h' at_ * 2 ^ (a + h')) ((wnd a h' at_ + 1) * 2 ^ (a + h'))
     have hc2 := cntW_le z.ws (wnd a h' at_ * 2 ^ (a + h')) ((wnd a h' at_ + 1) * 2 ^ (a + h'))
     have hd := d2 h' eh hh (prs z (wnd a h' at_ * 2 ^ (a + h')) ((wnd a h' at_ + 1) * 2 ^ (a + h'))) (by rw [hpl]; rfl) (by rw [hpl]; omega)
     refine ⟨hd, ?_⟩
     generalize wnd a h' at_ * 2 ^ (a + h') = lo at *
     generalize (wnd a h' at_ + 1) * 2 ^ (a + h') = hi at *
     have hL : (prs z lo hi).length ≤ hi - lo := by rw [hpl]; exact hc2
     rw [(gz.sp hlh hhi hL).elk, prs_sp gz hlh hhi hL, prs_app z (Nat.zero_le lo) (Nat.le_trans hlh hhi), prs_app z hlh hhi, ← List.append_assoc]
end
section
open Go.RowKit
theorem pr_take_succ {xs ys : List (Int × Int)} {k : Nat} (hl : xs.length = ys.length) (hk : k < xs.length) (ht : xs.take k = ys.take k) (h1 : (xs.getD k (0, 0)).1 = (ys.getD k (0, 0)).1) (h2 : (xs.getD k (0, 0)).2 = (ys.getD k (0, 0)).2) : xs.take (k + 1) = ys.take (k + 1) := by
 have h : xs.getD k (0, 0) = ys.getD k (0, 0) := Prod.ext h1 h2
 rw [List.getD_eq_getElem?_getD, List.getD_eq_getElem?_getD, List.getElem?_eq_getElem hk, List.getElem?_eq_getElem xo, Option.getD_some, Option.getD_some] at h
 rw [List.take_succ_eq_append_getElem hk, List.take_succ_eq_append_getElem xo, ht, h]
theorem SamePairs_ok (a b : Option Addr) (ca cb : Nat) (xs ys : List (Int × Int)) (w : World) (ha : IsRow .i64 w a (prI xs)) (hb : IsRow .i64 w b (prI ys)) (hm : xs.length ≤ 1000000000) :
    Calls Tryd.prog 20 #[.slice a xs.length ca, .slice b ys.length cb] w (AnsB w (.bool (decide (xs = ys)))) := by
 by_cases hlen : xs.length = ys.length
 · have hl1 : ((xs.length : Int) != (ys.length : Int)) = false := by simp [hlen]
   have HL := hid hlen
   clear hlen
   have HA := hid ha
   have HB := hid hb
   clear ha hb
   go_enter Tryd.func20, Tryd.ntmps20
   go_wp2
   go_loopg [5] xs.length (fun g i wr => ∃ (k n : Nat), k + g = xs.length ∧ i = .int .i64 k ∧ wr = w.drewN n ∧ xs.take k = ys.take k)
   case atStart => exact ⟨0, 0, by omega, rfl, rfl, by simp⟩
   case round =>
    obtain ⟨k, n, hk, rfl, rfl, ht⟩ := hrel
    have HT := hid ht
    clear ht
    by_cases hlt : k < xs.length
    · have hlt2 : k < ys.length := by rw [← HL.out]; exact hlt
      obtain ⟨b1, o1, rfl, c0, c1, z1⟩ := pr_get HA.out hlt
      obtain ⟨b2, o2, rfl, e0, e1, z2⟩ := pr_get HB.out hlt2
      have HX := hid (pr_take_succ (xs := xs) (ys := ys) (k := k) HL.out hlt HT.out)
      have HNE : Hid (¬ ((xs.getD k (0, 0)).1 = (ys.getD k (0, 0)).1 ∧ (xs.getD k (0, 0)).2 = (ys.getD k (0, 0)).2) → xs ≠ ys) := hid fun h e => h (by rw [e]; exact ⟨rfl, rfl⟩)
      generalize (xs.getD k (0, 0)).1 = x1 at *
      generalize (xs.getD k (0, 0)).2 = x2 at *
      generalize (ys.getD k (0, 0)).1 = y1 at *
      generalize (ys.getD k (0, 0)).2 = y2 at *
      by_cases h1 : x1 = y1
      · subst h1
        by_cases h2 : x2 = y2
        · subst h2
          have HX2 := hid (HX.out rfl rfl)
          clear HX HNE
          go_wp2
          go_quiet (fail)
          go_wp2
          go_roundg (gk - 1)
          case measure => omega
          case rel => exact ⟨k + 1, n + nq, by omega, by go_num, by simp, HX2.out⟩
        · have he : (x2 == y2) = false := by simpa using h2
          have HE := hid h2
          clear h2
          go_wp2
          go_quiet (fail)
          go_wp2
          go_ret
          exact ⟨by have : xs ≠ ys := HNE.out fun h => HE.out h.2
                    simp [this], below_drewN (below_drewN (Below.refl _ _) _) _⟩
      · have he : (x1 == y1) = false := by simpa using h1
        have HE := hid h1
        clear h1
        go_wp2
        go_quiet (fail)
        go_wp2
        go_ret
        exact ⟨by have : xs ≠ ys := HNE.out fun h => HE.out h.1
                  simp [this], below_drewN (below_drewN (Below.refl _ _) _) _⟩
    · go_wp2
      go_ret
      have : xs = ys := by
       have := HT.out
       rwa [List.take_of_length_le xo, List.take_of_length_le (by have := HL.out; omega)] at this
      exact ⟨by simp [this], below_drewN (Below.refl _ _) _⟩
 · have hl1 : ((xs.length : Int) != (ys.length : Int)) = true := by simp; omega
   have HL := hid hlen
   clear hlen ha hb
   go_enter Tryd.func20, Tryd.ntmps20
   go_wp2
   go_ret
   have : xs ≠ ys := fun e => HL.out (by rw [e])
   exact ⟨by simp [this], Below.refl _ _⟩
end
section
open Go.RowKit Go.Shelf Go.Sort
theorem all9_core (seg : Int) (wa ka va ca : Option Addr) (wc kc vc cc lw n lv lc : Nat) (laid : Int) (L : List (Int × Int)) (e : Int) (w : World)
    (PR : Hid (∀ W, Below w.heap.size w W → Calls Tryd.prog 27 #[.agg #[.int .i64 seg, .slice wa lw wc, .slice ka n kc, .slice va lv vc, .slice ca lc cc, .int .u64 laid], .int .i64 0, .int .i64 n] W (FreshPr2 W L (.int .i64 e)))) :
    Calls Tryd.prog 19 #[.agg #[.int .i64 seg, .slice wa lw wc, .slice ka n kc, .slice va lv vc, .slice ca lc cc, .int .u64 laid]] w (FreshPr2 w L (.bool (e == 0))) := by
 go_enter Tryd.func19, Tryd.ntmps19
 go_wp2_with fail
 refine (PR.out _ xbel).mono ?_
 rintro e w1 ⟨v, rfl, ho, hb1⟩
 have hz_w1 := hb1.size
 try simp only [World.size_alloc, World.size_setCell] at hz_w1
 have hh := bc6 hb1 (al6 (b := w.heap.size) (by simp))
 obtain ⟨c_t0, c_t1, c_t2, c_t3, c_t4, c_t5⟩ := hh
 have z_t := blt hb1 (alz (b := w.heap.size) (by simp))
 have hB1 : Below w.heap.size w w1 := xbel
 go_wp2
 exact bodyPost_ret (results_tmp2 rfl _ _ _) rfl ⟨_, rfl, owns_base ho (by simp), hB1⟩
theorem all9_ok (c : SlC) (a : SlA) (hl : c.ws.length ≤ 1000000000000) (hl2 : c.ks.length ≤ 1000000000000) (w : World) (hin : SlIn w c a) :
    Calls Tryd.prog 19 #[slV c a] w (FreshPr2 w (prsR c 0 c.ks.length) (.bool (partE c 0 c.ks.length == 0))) :=
  all9_core c.seg _ _ _ _ _ _ _ _ _ _ _ _ _ _ _ w (hid fun W hb => Pairs_ok c a hl hl2 0 c.ks.length W (hin.below hb))
theorem same_at {a b : Option Addr} {ca cb n m : Nat} {xs ys : List (Int × Int)} {w : World} (ha : IsRow .i64 w a (prI xs)) (hb : IsRow .i64 w b (prI ys)) (hn : xs.length = n) (hm : ys.length = m) (hle : n ≤ 1000000000) (he : xs = ys) :
    Calls Tryd.prog 20 #[.slice a n ca, .slice b m cb] w (AnsB w (.bool true)) := by
 subst hn hm he
 have := SamePairs_ok a b ca cb xs xs w ha hb hle
 rwa [decide_eq_true rfl] at this
section
variable {l : List (Int × Int)} {k : Nat} {p : Int × Int}
theorem ins_take (h : k ≤ l.length) : (insL l k p).take k = l.take k := by
 unfold insL
 rw [List.take_append_of_le_length (by rw [List.length_take]; omega), List.take_take, Nat.min_self]
theorem ins_drop (h : k ≤ l.length) : (insL l k p).drop (k + 1) = l.drop k := by
 unfold insL
 have e : k + 1 = (l.take k ++ [p]).length := by simp; omega
 rw [show l.take k ++ p :: l.drop k = (l.take k ++ [p]) ++ l.drop k by simp, e, List.drop_left]
theorem ins_get (h : k ≤ l.length) : (insL l k p).getD k (0, 0) = p := by
 unfold insL
 have e : k = (l.take k).length := by rw [List.length_take]; omega
 rw [List.getD_eq_getElem?_getD, List.getElem?_append_right xo, ← e, Nat.sub_self]
 rfl
theorem del_ins (h : k ≤ l.length) : delL (insL l k p) k = l := by
 rw [delL, ins_take h, ins_drop h, List.take_append_drop]
theorem del_take (h : k < l.length) : (delL l k).take k = l.take k := by
 unfold delL
 rw [List.take_append_of_le_length (by rw [List.length_take]; omega), List.take_take, Nat.min_self]
theorem del_drop (h : k < l.length) : (delL l k).drop k = l.drop (k + 1) := by
 unfold delL
 have e : k = (l.take k).length := by rw [List.length_take]; omega
 conv => lhs; rw [e]
 rw [← e, List.drop_append_of_le_length xo]
 simp
theorem del_length (h : k < l.length) : (delL l k).length = l.length - 1 := by
 unfold delL
 simp
 omega
end
theorem load_laid {c : Cfg} {s : SlC} {L : List (Int × Int)} (h0 : 0 ≤ s.laid) (h1 : s.laid < 18446744073709551616) (h : loadE c s L = 0) : (loadC c s L).laid = IntKind.u64.wrap (s.laid + (L.length : Int)) := by
 obtain ⟨g0, hm⟩ := load_zero h
 rw [loadC, if_pos ⟨g0, hm⟩]
 unfold wideC
 exact sp_laid _ _ _ _ (IntWalk.u64_in s.laid ⟨h0, by omega⟩)
end
end Go.Proofs.YtookgoidlnlckaaDoor
