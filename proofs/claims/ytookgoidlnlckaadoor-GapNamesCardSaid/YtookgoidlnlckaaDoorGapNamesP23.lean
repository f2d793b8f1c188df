/- Merged: GapLd, PutPl, TakPl, OrdPl, InvEff. -/
import Derived.Test.YtookgoidlnlckaaDoorGapNamesP22
import Derived.Test.YtookgoidlnlckaaDoorGapNamesP20
import Derived.Test.YtookgoidlnlckaaDoorGapNamesP19
import Derived.Test.YtookgoidlnlckaaDoorGapNamesP14
namespace Go.Proofs.YtookgoidlnlckaaDoor
set_option maxRecDepth 100000
set_option maxHeartbeats 40000000
set_option linter.unusedVariables false
set_option linter.unusedSimpArgs false
section
open Go.RowKit
theorem cap_nat {c : Cfg} (hd : cfHead c = true) {a : Nat} (hs : c.seg = ((2 ^ a : Nat) : Int)) {n : Int} (h0 : 0 ≤ n) (h1 : n ≤ 16384) : ∃ H : Nat, taks c n = ((2 ^ a * 2 ^ H : Nat) : Int) ∧ 2 ^ a * 2 ^ H ≤ 65536 ∧ n ≤ taks c n := by
 have f := cfHead_facts hd
 obtain ⟨d0, d1, d2, d3, d4, d5, d6, d7, d8, d9, d10, d11, d12, d13, d14, d15, d16, d17⟩ := cfHead_num hd
 have tb := taks_bd hd h0 h1
 obtain ⟨l1, l2, b, eb⟩ := powB_nat f.2.2.2.2.2.1
 have hab : a ≤ b := (Nat.pow_le_pow_iff_right (a := 2) xo).1 xo
 obtain ⟨j, -, ej⟩ := takF_pow c n 20 c.least
 have e : taks c n = ((2 ^ a * 2 ^ (b - a + j) : Nat) : Int) := by
  rw [taks, ej, eb, ← Nat.pow_add, show a + (b - a + j) = b + j by omega, Nat.pow_add]
  push_cast
  rfl
 refine ⟨b - a + j, e, by omega, ?_⟩
 have ht := takF_takes (c := c) (n := n) xo 20 c.least xo (tak_start h0 h1 xo d8 d9).1
 have m1 : c.rh * taks c n ≤ c.den * taks c n := Int.mul_le_mul_of_nonneg_right xo xo
 have m2 : c.den * n ≤ c.den * taks c n := by
  rw [Int.mul_comm c.den n]
  exact Int.le_trans ht m1
 exact Int.le_of_mul_le_mul_left m2 xo
theorem gap_zero {c : Cfg} {s : SlC} (h : gapE c s = 0) : cfMay c = true ∧ ∃ a H, GapN c s a H ∧ s.seg = c.seg ∧ sumC s.cs 0 s.cs.length ≤ c.most ∧ denB c s H = true := by
 unfold gapE at h
 split at h
 · rename_i hc
   split at h
   · rename_i hg
     have hg' := hg
     simp only [gapMay, gapHead, Bool.and_eq_true, decide_eq_true_eq] at hg
     obtain ⟨⟨⟨⟨h1, h2⟩, h3⟩, h4⟩, h5⟩ := hg
     obtain ⟨a, H, k⟩ := gapN_of hc h3 h1 h2
     exact ⟨hc, a, H, k, h2, h4, by rw [← k.cap.hgt]; exact h5⟩
   · cases h
 · cases h
def nilC : SlC := ⟨0, [], [], [], [], 0⟩
def capM (c : Cfg) (n : Nat) : Nat := (taks c n).toNat / c.seg.toNat
def loadC (c : Cfg) (s : SlC) (L : List (Int × Int)) : SlC := if gapE c s = 0 ∧ (L.length : Int) ≤ c.most then wideC c.seg.toNat (capM c L.length) s.laid L else nilC
def loadE (c : Cfg) (s : SlC) (L : List (Int × Int)) : Int := if gapE c s = 0 then (if (L.length : Int) ≤ c.most then 0 else 9) else gapE c s
theorem cap_facts {c : Cfg} {s : SlC} {a H : Nat} (k : GapN c s a H) {n : Nat} (hn : (n : Int) ≤ c.most) : c.seg.toNat = 2 ^ a ∧ taks c n = ((2 ^ a * capM c n : Nat) : Int) ∧ 1 ≤ capM c n ∧ 2 ^ a * capM c n ≤ 65536 ∧ n ≤ 2 ^ a * capM c n ∧ pwB (capM c n : Int) = true := by
 have hd := cfMay_head k.cap.may
 have d := cfHead_num hd
 obtain ⟨H', e, hb, hle⟩ := cap_nat hd k.cap.seg (n := (n : Int)) xo xo
 have hs : c.seg.toNat = 2 ^ a := by rw [k.cap.seg]; rfl
 have hm : capM c n = 2 ^ H' := by
  rw [capM, e, hs, Int.toNat_natCast, Nat.mul_div_cancel_left _ (Nat.two_pow_pos a)]
 rw [hm]
 exact ⟨hs, e, Nat.two_pow_pos H', hb, by omega, pwB_two H'⟩
theorem gapN_gd {c : Cfg} {s : SlC} {a H : Nat} (k : GapN c s a H) (hu : U64s s.ws) : SlGd s (2 ^ a) ((s.ks.length + 63) / 64) s.ks.length (2 ^ H) ∧ (s.ks.length + 63) / 64 ≤ 2000 := by
 obtain ⟨S, M, g, -, -, -⟩ := slMay_gd hu k.may
 have e1 : S = 2 ^ a := by have := g.seg; have := k.seg; omega
 have e2 : M = 2 ^ H := by have := g.elc; have := k.nc; omega
 have e3 := g.elk
 subst e1 e2
 have hb := k.cap.big
 rw [← e3] at g
 have := k.nk
 exact ⟨g, by omega⟩
theorem gapLoad_ok (c : Cfg) (s : SlC) (sa : SlA) (hl : s.ws.length ≤ 1000000000000) (hl2 : s.ks.length ≤ 1000000000000) (hcc : s.cs.length ≤ sa.cc) (L : List (Int × Int)) (la : Option Addr) (pl : Nat) (w : World) (hin : SlIn w s sa) (hla : IsRow .i64 w la (prI L)) :
    Calls Tryd.prog 17 #[.agg #[.int .u8 c.tag, .int .i64 c.most, .int .i64 c.seg, .int .i64 c.least, .int .i64 c.den, .int .i64 c.ll, .int .i64 c.rl, .int .i64 c.rh, .int .i64 c.lh], slV s sa, .slice la L.length pl] w (FreshSl2 w (loadC c s L) (.int .i64 (loadE c s L))) := by
 have CK : Hid (∀ W, Below w.heap.size w W → Calls Tryd.prog 18 #[.agg #[.int .u8 c.tag, .int .i64 c.most, .int .i64 c.seg, .int .i64 c.least, .int .i64 c.den, .int .i64 c.ll, .int .i64 c.rl, .int .i64 c.rh, .int .i64 c.lh], slV s sa] W (AnsB W (.int .i64 (gapE c s)))) := hid fun W hb => gapCheck_ok c s sa hl hl2 hcc W (hin.below hb)
 unfold loadC loadE
 by_cases h0 : gapE c s = 0
 · rw [h0] at CK
   by_cases hm : (L.length : Int) ≤ c.most
   · rw [if_pos ⟨h0, hm⟩, if_pos h0, if_pos hm]
     obtain ⟨hc, a, H, k, hs, -, -⟩ := gap_zero h0
     obtain ⟨e1, e2, e3, e4, e5, e6⟩ := cap_facts k hm
     rw [e1]
     obtain ⟨g, -⟩ := gapN_gd k hin.u
     refine gapLoad_in w c s.seg _ _ _ _ _ _ _ _ _ _ _ _ _ (2 ^ a * capM c L.length) L.length la pl _ hm CK (hid fun W hb => ?_) (hid fun W hb => ?_)
     · have := Cap_in c hc (L.length : Int) xo hm W
       rwa [e2] at this
     · exact Into_ok g k.may sa (capM c L.length) e3 (pwB_two a) e6 e4 L e5 la pl W (hin.below hb) (hla.below hb)
   · rw [if_neg (fun q => hm q.2), if_pos h0, if_neg hm]
     exact gapLoad_many w c s.seg _ _ _ _ _ _ _ _ _ _ _ _ _ L.length la pl xo CK
 · rw [if_neg (fun q => h0 q.1), if_neg h0]
   exact gapLoad_err w c s.seg _ _ _ _ _ _ _ _ _ _ _ _ _ L.length la pl _ h0 CK
end
section
open Go.RowKit
def inH (s : SlC) (a h at_ : Nat) : Int := sumC s.cs (wnd a h at_ * 2 ^ h) ((wnd a h at_ + 1) * 2 ^ h)
def ovB (c : Cfg) (s : SlC) (a H at_ h : Nat) : Bool := !fulB c H h (inH s a h at_ + 1)
def unfB (c : Cfg) (s : SlC) (a H at_ h : Nat) : Bool := !sprB c s.ks.length H h (inH s a h at_)
theorem ful_room {c : Cfg} {size : Int} {a H h : Nat} (k : CapC c size a H) (hh : h ≤ H) {n : Int} (hf : fulB c H h n = true) : n ≤ ((2 ^ (a + h) : Nat) : Int) := by
 obtain ⟨d0, d1, d2, d3, d4, d5, d6, d7, d8, d9, d10, d11, d12, d13, d14, d15, d16, d17⟩ := cfHead_num (cfMay_head k.may)
 have hw : wdC c h = ((2 ^ (a + h) : Nat) : Int) := by rw [wdC, k.seg, Nat.pow_add]; push_cast; rfl
 have hw0 := Nat.two_pow_pos (a + h)
 unfold fulB at hf
 split at hf
 · rw [decide_eq_true_eq, hw] at hf
   have := Int.mul_le_mul_of_nonneg_left (show c.rh ≤ c.den by omega) (show (0 : Int) ≤ ((2 ^ (a + h) : Nat) : Int) by omega)
   exact Int.le_of_mul_le_mul_right (Int.le_trans hf this) xo
 · rename_i hH
   rw [decide_eq_true_eq, hw] at hf
   have h1 : c.lh * ((H : Int) - h) ≤ c.den * ((H : Int) - h) := Int.mul_le_mul_of_nonneg_right xo xo
   have h2 : c.rh * (h : Int) ≤ c.den * (h : Int) := Int.mul_le_mul_of_nonneg_right xo xo
   have h3 : c.den * ((H : Int) - h) + c.den * (h : Int) = H * c.den := by rw [← Int.mul_add, Int.mul_comm]; congr 1; omega
   have h4 := Int.mul_le_mul_of_nonneg_left (show c.lh * ((H : Int) - h) + c.rh * h ≤ H * c.den by omega) (show (0 : Int) ≤ ((2 ^ (a + h) : Nat) : Int) by omega)
   rw [Int.mul_assoc] at hf
   have h5 : (0 : Int) < (H : Int) * c.den := Int.mul_pos xo xo
   exact Int.le_of_mul_le_mul_right (Int.le_trans hf h4) h5
def manyC (s : SlC) : Nat := cntW s.ws 0 s.ks.length
def homeC (s : SlC) (k : Nat) : Nat := (plsW s.ws 0 s.ks.length).getD (k - 1) 0
theorem homeC_lt {s : SlC} (h : 1 ≤ s.ks.length) (k : Nat) : homeC s k < s.ks.length := by
 unfold homeC
 rcases Nat.lt_or_ge (k - 1) (plsW s.ws 0 s.ks.length).length with q | q
 · exact (plsW_getD q).2
 · rw [List.getD_eq_getElem?_getD, List.getElem?_eq_none q]; simpa using Nat.lt_of_lt_of_le Nat.zero_lt_one h
def insL (l : List (Int × Int)) (k : Nat) (p : Int × Int) : List (Int × Int) := l.take k ++ p :: l.drop k
theorem insL_length {l : List (Int × Int)} {k : Nat} (h : k ≤ l.length) (p : Int × Int) : (insL l k p).length = l.length + 1 := by
 simp [insL]; omega
def putN (c : Cfg) (s : SlC) (a H : Nat) (k : Nat) (p : Int × Int) : SlC :=
  if topI (ovB c s a H (homeC s k)) (H + 1) = H then wideC (2 ^ a) (capM c (manyC s + 1)) s.laid (insL (prs s 0 s.ks.length) k p)
  else
   let h := (topI (ovB c s a H (homeC s k)) (H + 1) + 1).toNat
   let lo := wnd a h (homeC s k) * 2 ^ (a + h)
   let hi := (wnd a h (homeC s k) + 1) * 2 ^ (a + h)
   spC s lo hi (insL (prs s lo hi) (k - cntW s.ws 0 lo) p)
def sgL (c : Cfg) : Nat := c.seg.toNat.log2
def putE (c : Cfg) (s : SlC) (k : Int) : Int := if gapE c s = 0 then (if k < 0 ∨ (manyC s : Int) < k then 2 else if (manyC s : Int) = c.most then 9 else 0) else gapE c s
def putC (c : Cfg) (s : SlC) (k : Int) (p : Int × Int) : SlC := if putE c s k = 0 then putN c s (sgL c) (htC c s.ks.length) k.toNat p else nilC
theorem sum_many {c : Cfg} {s : SlC} {a H : Nat} (k : GapN c s a H) (hu : U64s s.ws) : sumC s.cs 0 s.cs.length = manyC s := by
 obtain ⟨g, -⟩ := gapN_gd k hu
 rw [sumC_cnt2 g (Nat.zero_le _) (by rw [k.nc]; exact Nat.le_refl _), manyC, Nat.zero_mul, k.nc, k.nk, Nat.mul_comm (2 ^ H)]
theorem in_cnt {c : Cfg} {s : SlC} {a H h at_ : Nat} (k : GapN c s a H) (hu : U64s s.ws) (hh : h ≤ H) (hat : at_ < s.ks.length) : inH s a h at_ = (cntW s.ws (wnd a h at_ * 2 ^ (a + h)) ((wnd a h at_ + 1) * 2 ^ (a + h)) : Nat) := by
 obtain ⟨g, -⟩ := gapN_gd k hu
 rw [k.nk] at hat
 have b := wnd_bd hh hat
 have e := wnd_seg a h at_
 rw [inH, sumC_cnt2 g (Nat.mul_le_mul_right _ xo) b.1, e.1, e.2.1]
theorem pls_rank {ws : List Int} {n i : Nat} (h : i < (plsW ws 0 n).length) : cntW ws 0 ((plsW ws 0 n).getD i 0) = i ∧ bitW ws ((plsW ws 0 n).getD i 0) = true ∧ (plsW ws 0 n).getD i 0 < n := by
 induction n with
 | zero => simp [plsW_nil] at h
 | succ n ih =>
  rw [plsW_succ (Nat.zero_le _)] at h ⊢
  rcases Nat.lt_or_ge i (plsW ws 0 n).length with q | q
  · have e : (plsW ws 0 n ++ if bitW ws n = true then [n] else []).getD i 0 = (plsW ws 0 n).getD i 0 := by
      rw [List.getD_eq_getElem?_getD, List.getElem?_append_left q, ← List.getD_eq_getElem?_getD]
    rw [e]
    obtain ⟨h1, h2, h3⟩ := ih q
    exact ⟨h1, h2, by omega⟩
  · by_cases hb : bitW ws n = true
    · rw [if_pos hb, List.length_append, List.length_singleton] at h
      have hi : i = (plsW ws 0 n).length := xo
      rw [if_pos hb]
      have e : (plsW ws 0 n ++ [n]).getD i 0 = n := by
       rw [List.getD_eq_getElem?_getD, hi, List.getElem?_append_right (Nat.le_refl _), Nat.sub_self]; rfl
      rw [e]
      exact ⟨by rw [hi, plsW_length], hb, by omega⟩
    · rw [if_neg hb, List.append_nil] at h; omega
theorem home_in {s : SlC} {k lo hi : Nat} (hn : 1 ≤ s.ks.length) (hk : k ≤ manyC s) (hlo : lo ≤ homeC s k) (hhi : homeC s k < hi) (hh : hi ≤ s.ks.length) : cntW s.ws 0 lo ≤ k ∧ k - cntW s.ws 0 lo ≤ (prs s lo hi).length := by
 rw [prs_length]
 have hadd := cntW_add s.ws (a := 0) (b := lo) (d := hi) xo xo
 have hadd2 := cntW_add s.ws (a := 0) (b := hi) (d := s.ks.length) xo hh
 have hm : manyC s = cntW s.ws 0 s.ks.length := rfl
 rcases Nat.eq_zero_or_pos k with rfl | hk0
 · -- ahead of all: there is nothing ahead of the first one
   have hz : cntW s.ws 0 lo = 0 := by
    rcases Nat.eq_zero_or_pos (manyC s) with q | q
    · omega
    · have hr := pls_rank (ws := s.ws) (n := s.ks.length) (i := 0) (by rw [plsW_length]; omega)
      have e : homeC s 0 = (plsW s.ws 0 s.ks.length).getD 0 0 := rfl
      rw [← e] at hr
      have := cntW_mono (ws := s.ws) (a := 0) hlo
      omega
   omega
 · have hr := pls_rank (ws := s.ws) (n := s.ks.length) (i := k - 1) (by rw [plsW_length]; omega)
   have e : homeC s k = (plsW s.ws 0 s.ks.length).getD (k - 1) 0 := rfl
   rw [← e] at hr
   have h1 := cntW_mono (ws := s.ws) (a := 0) hlo
   have h2 : cntW s.ws 0 (homeC s k + 1) = k := by
    rw [cntW_succ (Nat.zero_le _), if_pos hr.2.1]; omega
   have h3 := cntW_mono (ws := s.ws) (a := 0) (show homeC s k + 1 ≤ hi by omega)
   omega
theorem put_room {c : Cfg} {s : SlC} {a H : Nat} (k : GapN c s a H) (hu : U64s s.ws) {at_ : Nat} (hat : at_ < s.ks.length) (hne : topI (ovB c s a H at_) (H + 1) ≠ H) :
    ∃ h : Nat, topI (ovB c s a H at_) (H + 1) + 1 = h ∧ h ≤ H ∧ (cntW s.ws (wnd a h at_ * 2 ^ (a + h)) ((wnd a h at_ + 1) * 2 ^ (a + h)) : Nat) + 1 ≤ 2 ^ (a + h) := by
 have hmain : ∀ h : Nat, h ≤ H → ovB c s a H at_ h = false → (cntW s.ws (wnd a h at_ * 2 ^ (a + h)) ((wnd a h at_ + 1) * 2 ^ (a + h)) : Nat) + 1 ≤ 2 ^ (a + h) := by
  intro h hh ho
  unfold ovB at ho
  rw [Bool.not_eq_false'] at ho
  rw [in_cnt k hu hh hat] at ho
  have := ful_room k.cap hh ho
  omega
 rcases topI_cases (ovB c s a H at_) (H + 1) with ⟨e, hn⟩ | ⟨q, hq, e, hp, hn⟩
 · exact ⟨0, by omega, by omega, hmain 0 xo (hn 0 xo)⟩
 · have hqH : q ≠ H := fun h => hne (by rw [e, h])
   exact ⟨q + 1, by omega, by omega, hmain (q + 1) xo (hn (q + 1) xo xo)⟩
end
section
open Go.RowKit
theorem nar_step {c : Cfg} {size : Int} {a H : Nat} (k : CapC c size a H) {m : Nat} (hf : sprB c size H H m = false) : ∃ H', H = H' + 1 ∧ CapC c (size / 2) a H' ∧ 8 * ((m : Int) + 1) < size := by
 have hd := cfMay_head k.may
 obtain ⟨d0, d1, d2, d3, d4, d5, d6, d7, d8, d9, d10, d11, d12, d13, d14, d15, d16, d17⟩ := cfHead_num hd
 obtain ⟨l1, l2, b, eb⟩ := powB_nat (cfHead_facts hd).2.2.2.2.2.1
 obtain ⟨s1, s2, s3⟩ := powB_iff.1 k.cap
 unfold sprB at hf
 rw [Bool.or_eq_false_iff, decide_eq_false_iff_not, decide_eq_false_iff_not] at hf
 obtain ⟨hne, hlt⟩ := hf
 have hall := k.all
 have hseg := k.seg
 have e : 2 ^ a * 2 ^ H = 2 ^ (a + H) := (Nat.pow_add ..).symm
 have hb1 : 2 ^ b < 2 ^ (a + H) := by rw [← e]; omega
 have hbH : b < a + H := (Nat.pow_lt_pow_iff_right (a := 2) xo).1 hb1
 have hab : a ≤ b := (Nat.pow_le_pow_iff_right (a := 2) xo).1 xo
 obtain ⟨H', rfl⟩ : ∃ H', H = H' + 1 := ⟨H - 1, by omega⟩
 have e2 : 2 ^ a * 2 ^ (H' + 1) = 2 * (2 ^ a * 2 ^ H') := by rw [Nat.pow_succ]; simp only [Nat.mul_comm, Nat.mul_left_comm]
 have hhalf : size / 2 = ((2 ^ a * 2 ^ H' : Nat) : Int) := by rw [hall, e2]; omega
 have hbig := k.big
 have h14 := k.h14
 have hlb : 2 ^ b ≤ 2 ^ a * 2 ^ H' := by rw [← Nat.pow_add]; exact Nat.pow_le_pow_right xo xo
 refine ⟨H', rfl, ⟨k.may, powB_iff.2 ⟨by omega, by omega, ?_⟩, k.seg, k.a2, k.a6, hhalf, by omega, ?_, by omega⟩, ?_⟩
 · rw [hhalf, ← Nat.pow_add]; exact pwB_two _
 · rw [htC, hseg, hhalf, Int.natCast_mul, Int.mul_ediv_cancel_left _ (by have := Nat.two_pow_pos a; omega), Int.toNat_natCast, Nat.log2_two_pow]
 · have hw : wdC c (H' + 1) = size := by rw [wdC, hseg, hall]; push_cast; rfl
   rw [hw] at hlt
   have e3 : c.ll * (((H' + 1 : Nat) : Int) - ((H' + 1 : Nat) : Int)) + c.rl * ((H' + 1 : Nat) : Int) = c.rl * ((H' + 1 : Nat) : Int) := by rw [Int.sub_self, Int.mul_zero, Int.zero_add]
   rw [e3] at hlt
   have h1 : ((m : Int) + 1) * ((H' + 1 : Nat) : Int) * c.den < size * (c.rl * ((H' + 1 : Nat) : Int)) := xo
   have h2 : ((m : Int) + 1) * ((H' + 1 : Nat) : Int) * c.den = (((m : Int) + 1) * c.den) * ((H' + 1 : Nat) : Int) := by rw [Int.mul_assoc, Int.mul_comm _ c.den, ← Int.mul_assoc]
   have h3 : size * (c.rl * ((H' + 1 : Nat) : Int)) = (size * c.rl) * ((H' + 1 : Nat) : Int) := by rw [Int.mul_assoc]
   rw [h2, h3] at h1
   have h4 : ((m : Int) + 1) * c.den < size * c.rl := Int.lt_of_mul_lt_mul_right h1 xo
   have h5 := Int.mul_le_mul_of_nonneg_left (show 8 * c.rl ≤ c.den by omega) (show (0 : Int) ≤ (m : Int) + 1 by omega)
   have h6 : ((m : Int) + 1) * (8 * c.rl) = (8 * ((m : Int) + 1)) * c.rl := by rw [← Int.mul_assoc, Int.mul_comm _ 8]
   rw [h6] at h5
   exact Int.lt_of_mul_lt_mul_right (Int.lt_of_le_of_lt h5 h4) xo
def narF (c : Cfg) (m : Int) : Nat → Int → Int
  | 0, size => size
  | f + 1, size => if sprB c size (htC c size) (htC c size) m = true then size else narF c m f (size / 2)
theorem nar_ok {c : Cfg} {m : Nat} : ∀ (f : Nat) (size : Int) (a H : Nat), CapC c size a H → H < f → (m : Int) ≤ size → ∃ H', H' ≤ H ∧ CapC c (narF c m f size) a H' ∧ (m : Int) ≤ narF c m f size ∧ sprB c (narF c m f size) H' H' m = true
  | 0, _, _, _, _, h, _ => by omega
  | f + 1, size, a, H, k, h, hm => by
   rw [narF, k.hgt]
   cases hs : sprB c size H H m with
   | true => rw [if_pos rfl]; exact ⟨H, Nat.le_refl _, k, hm, hs⟩
   | false =>
    rw [if_neg (by decide)]
    obtain ⟨H', rfl, k', h8⟩ := nar_step k hs
    obtain ⟨H2, q1, q2, q3, q4⟩ := nar_ok (m := m) f (size / 2) a H' k' xo xo
    exact ⟨H2, by omega, q2, q3, q4⟩
def takN (c : Cfg) (s : SlC) (a H : Nat) (k : Nat) : SlC :=
  let at_ := (plsW s.ws 0 s.ks.length).getD k 0
  let z := tkC s at_
  let t := topI (unfB c z a H at_) (H + 1)
  if t = -1 then z
  else if t = H then wideC (2 ^ a) ((narF c (manyC z) 20 z.ks.length).toNat / 2 ^ a) z.laid (prs z 0 z.ks.length)
  else spC z (wnd a (t + 1).toNat at_ * 2 ^ (a + (t + 1).toNat)) ((wnd a (t + 1).toNat at_ + 1) * 2 ^ (a + (t + 1).toNat)) (prs z (wnd a (t + 1).toNat at_ * 2 ^ (a + (t + 1).toNat)) ((wnd a (t + 1).toNat at_ + 1) * 2 ^ (a + (t + 1).toNat)))
def takE (c : Cfg) (s : SlC) (k : Int) : Int := if gapE c s = 0 then (if k < 0 ∨ (manyC s : Int) ≤ k then 2 else 0) else gapE c s
def takC (c : Cfg) (s : SlC) (k : Int) : SlC := if takE c s k = 0 then takN c s (sgL c) (htC c s.ks.length) k.toNat else nilC
end
section
open Go.RowKit
end
section
open Go.RowKit
section
variable {P : Program} {ops : Array Oper} {Q : Exit → Act → World → Prop}
def OpsOkE (P : Program) (ops : Array Oper) (Q : Exit → Act → World → Prop) (D : List Nat) (t0 : Array Value) (n : Nat) (ds : List Deferred) (J : World → Prop) (Ext : Nat → World → World → Prop) (G : Nat → (Nat → Value) → World → Prop) : Nat → List Oper → Prop
  | _, [] => True
  | k, o :: rest => OpOkR P ops Q D t0 n ds J (Ext k) G k o ∧ OpsOkE P ops Q D t0 n ds J Ext G (k + 1) rest
theorem OpsOkE.at {D : List Nat} {t0 : Array Value} {n : Nat} {ds : List Deferred} {J : World → Prop} {Ext : Nat → World → World → Prop} {G : Nat → (Nat → Value) → World → Prop} : ∀ {l : List Oper} {k : Nat}, OpsOkE P ops Q D t0 n ds J Ext G k l → ∀ {i : Nat} {o : Oper}, l[i]? = some o → OpOkR P ops Q D t0 n ds J (Ext (k + i)) G (k + i) o
  | [], _, _, i, o, ho => by simp at ho
  | x :: rest, k, h, 0, o, ho => by simp at ho; subst ho; exact h.1
  | x :: rest, k, h, i + 1, o, ho => by
   have := OpsOkE.at h.2 (i := i) (o := o) (by simpa using ho)
   rwa [Nat.add_assoc, Nat.add_comm 1 i] at this
theorem wp_region_eff {id : Nat} {l : List Oper} {t0 : Array Value} {ds : List Deferred} {w0 : World} {N : Nat} (n : Nat) (hm : P.follows .mixedOrders = true) (hn : t0.size = N) (hB : regionL (l.take n) N = true) (hT : tailL l n = true) (hle : n ≤ l.length)
    (J : World → Prop) (Ext : Nat → World → World → Prop) (G : Nat → (Nat → Value) → World → Prop) (hst : ∀ i k x w w', k ≠ i → Ext i w w' → G k x w → G k x w') (hdep : ∀ (k : Nat) (u u' : Nat → Value) (w : World), (∀ (j : Nat) (p o : Oper), l[j]? = some p → l[k]? = some o → (j = k ∨ (o.after.any fun e => Region.binds .any e && e.on == j) = true) → valOf u' p = valOf u p) → G k u w → G k u' w) (hJ : J w0.drew)
    (hop : OpsOkE P l.toArray Q (dstsOf (l.take n)) t0 N ds J Ext G 0 (l.take n))
    (hdone : ∀ (u : Nat → Value) (w : World), J w → (∀ (k : Nat) (o : Oper), (l.take n)[k]? = some o → G k u w) → wpList P l.toArray Q (l.drop n) { tmps := mixFrame (dstsOf (l.take n)) u t0, defers := ds } w) :
    (Code.region id l.toArray true).wp P Q { tmps := t0, defers := ds } w0 := by
 subst hn
 simp only [regionL, Bool.and_eq_true, List.all_eq_true, decide_eq_true_eq] at hB
 obtain ⟨⟨⟨hnd, hlt⟩, hgd⟩, hac⟩ := hB
 simp only [tailL, List.all_eq_true, List.mem_range, Bool.or_eq_true, decide_eq_true_eq] at hT
 have htk : ∀ {k : Nat} {o : Oper}, (l.take n)[k]? = some o ↔ k < n ∧ l[k]? = some o := by
  intro k o
  rw [List.getElem?_take]
  by_cases h : k < n
  · rw [if_pos h]; exact ⟨fun h1 => ⟨h, h1⟩, fun h1 => h1.2⟩
  · rw [if_neg h]; exact ⟨fun h1 => (by cases h1), fun h1 => absurd h1.1 h⟩
 refine wp_region_any hm (wpAny_invL (ops := l.toArray)
   (fun L a w => ((∀ i, n ≤ i → L.getD i false = false) ∧ ∃ u : Nat → Value, a = { tmps := mixFrame (dstsOf (l.take n)) u t0, defers := ds } ∧ J w ∧ ∀ (k : Nat) (o : Oper), (l.take n)[k]? = some o → L.getD k false = true → G k u w) ∨
     (∃ m, n ≤ m ∧ m ≤ l.length ∧ (∀ i, i < m → L.getD i false = true) ∧ (∀ i, m ≤ i → L.getD i false = false) ∧ wpList P l.toArray Q (l.drop m) a w))
   ?_ ?_ ?_ _ _ _ _ (by simp) (leftOf_le _ _) (fun j p hp hj => by simp [Array.getD] at hj) (.inl ⟨fun i _ => by rw [List.size_toArray]; simp [Array.getD], fun t => t0.getD t undef, by rw [mixFrame_start], hJ, fun k o _ h => ?_⟩))
 · intro i o ho e he hb
   have hi : i < l.length := (Array.getElem?_eq_some_iff.1 ho).1
   rw [List.getElem?_toArray] at ho
   by_cases hin : i < n
   · have h1 : (l.take n)[i]? = some o := htk.2 ⟨hin, ho⟩
     have := hac i (List.mem_range.2 (List.getElem?_eq_some_iff.1 h1).1)
     rw [h1] at this
     have h2 := Array.all_eq_true_iff_forall_mem.1 this e he
     rw [hb] at h2
     simpa using h2
   · have h1 := hT i hi
     rcases h1 with h1 | h1
     · omega
     · rw [ho] at h1
       simp only [Bool.and_eq_true] at h1
       have h2 := Array.all_eq_true_iff_forall_mem.1 h1.2 e he
       rw [hb] at h2
       simpa using h2
 · rintro L a w i o hs ho hi hall hcl hI
   rw [List.getElem?_toArray] at ho
   have hil : i < l.length := (List.getElem?_eq_some_iff.1 ho).1
   have hilt : i < L.size := by rw [hs]; simpa using hil
   have ahead : n ≤ i → ∀ j, j < i → L.getD j false = true := by
    intro hin j hj
    have h1 := hT i hil
    rcases h1 with h1 | h1
    · omega
    · simp only [Bool.and_eq_true, decide_eq_true_eq] at h1
      have hbit : ((masksOf l []).getD i 0).testBit j = true := by
       have h2 := congrArg (fun m => Nat.testBit m j) h1.1
       simp only [Nat.testBit_mod_two_pow, Nat.testBit_two_pow_sub_one, decide_eq_true hj, Bool.true_and] at h2
       exact h2
      exact masks_sound hcl l [] 0 rfl (fun j => by rw [Nat.zero_add]) (fun i hi => by omega) i o ho hall j hbit
   have later : ∀ (m : Nat), n ≤ m → m = i → (∀ j, m ≤ j → L.getD j false = false) → (∀ j, j < m → L.getD j false = true) → wpList P l.toArray Q (l.drop m) a w →
       wpOp P l.toArray Q i (fun a' w' => ((∀ k, n ≤ k → (L.setIfInBounds i true).getD k false = false) ∧ ∃ u : Nat → Value, a' = { tmps := mixFrame (dstsOf (l.take n)) u t0, defers := ds } ∧ J w' ∧ ∀ (k : Nat) (o : Oper), (l.take n)[k]? = some o → (L.setIfInBounds i true).getD k false = true → G k u w') ∨
         (∃ m, n ≤ m ∧ m ≤ l.length ∧ (∀ k, k < m → (L.setIfInBounds i true).getD k false = true) ∧ (∀ k, m ≤ k → (L.setIfInBounds i true).getD k false = false) ∧ wpList P l.toArray Q (l.drop m) a' w')) a w := by
    rintro m hnm rfl hno hyes hw
    refine wpOp_mono (fun a' w' h => .inr ⟨m + 1, by omega, by omega, fun k hk => ?_, fun k hk => ?_, h⟩) (wpOp_of_list ho hw)
    · by_cases e : k = m
      · subst e; exact set_same hilt
      · rw [set_else e]; exact hyes k xo
    · rw [set_else xo]; exact hno k xo
   rcases hI with ⟨hno, u, rfl, hJw, hG⟩ | ⟨m, hnm, hml, hyes, hno, hw⟩
   · by_cases hin : i < n
     · have htki : (l.take n)[i]? = some o := htk.2 ⟨hin, ho⟩
       have hok := hop.at htki
       rw [Nat.zero_add] at hok
       have hg : o.guard = none := by
        have := hgd o (List.mem_of_getElem? htki)
        cases hx : o.guard with
        | none => rfl
        | some x => rw [hx] at this; cases this
       unfold wpOp
       simp only [List.getElem?_toArray, ho]
       rw [if_pos (by simp [Region.wanted, hg])]
       left
       refine hok u _ w (fun t ht => mixFrame_get ht) hJw (fun j p hj hp => ?_) _ (fun v w' hv hJ' hG' hE => .inl ⟨fun k hk => by rw [set_else xo]; exact hno k hk, ?_⟩)
       · rw [List.getElem?_toArray] at hp
         obtain ⟨e, he, hbe⟩ := Array.any_eq_true.1 hj
         simp only [Bool.and_eq_true, beq_iff_eq] at hbe
         have hl := hall _ (Array.getElem_mem he) hbe.1
         rw [hbe.2] at hl
         have hjn : j < n := by
          by_cases h : j < n
          · exact h
          · rw [hno j xo] at hl; cases hl
         exact hG j p (htk.2 ⟨hjn, hp⟩) hl
       · cases hd : o.dst with
         | none =>
          refine ⟨u, rfl, hJ', fun k p hp hk => ?_⟩
          by_cases e : k = i
          · subst e
            have := hG'
            unfold updR at this
            rw [hd] at this
            exact this
          · rw [set_else e] at hk
            exact hst _ _ _ _ _ e hE (hG k p hp hk)
         | some d =>
          have hdm : (dstsOf (l.take n)).contains d = true := by
           simp only [List.contains_iff_mem]
           exact List.mem_filterMap.2 ⟨o, List.mem_of_getElem? htki, hd⟩
          refine ⟨fun t => if t = d then v else u t, by simp only [Act.put, mixFrame_put hdm], hJ', fun k p hp hk => ?_⟩
          by_cases e : k = i
          · subst e
            have := hG'
            unfold updR at this
            rw [hd] at this
            exact this
          · rw [set_else e] at hk
            refine hst _ _ _ _ _ e hE (hdep k u _ w (fun j p' o' hj ho' hor => ?_) (hG k p hp hk))
            have hjl : L.getD j false = true := by
             rcases hor with rfl | hor
             · exact hk
             · obtain ⟨e', he', hbe⟩ := Array.any_eq_true.1 hor
               simp only [Bool.and_eq_true, beq_iff_eq] at hbe
               have := hcl k o' (by rw [List.getElem?_toArray]; exact ho') hk _ (Array.getElem_mem he') hbe.1
               rw [hbe.2] at this
               exact this
            have hji : j ≠ i := fun h => by rw [h, hi] at hjl; cases hjl
            have hjn : j < n := by
             by_cases h : j < n
             · exact h
             · rw [hno j xo] at hjl; cases hjl
            have hne := nodup_slot hnd htki (htk.2 ⟨hjn, hj⟩) (fun h => hji h.symm) hd
            unfold valOf
            cases hpd : p'.dst with
            | none => rfl
            | some d' => exact if_neg (fun h => hne (by rw [hpd, h]))
     · have hin' : n = i := by
         by_cases e : n = i
         · exact e
         · have := ahead xo n xo
           rw [hno n (Nat.le_refl _)] at this
           cases this
       refine later n (Nat.le_refl _) hin' hno (fun j hj => ahead xo j xo) (hdone u w hJw fun k p hp => hG k p hp (ahead xo k ?_))
       have := (htk.1 hp).1
       omega
   · have him : m ≤ i := by
       by_cases h : m ≤ i
       · exact h
       · have := hyes i xo; rw [hi] at this; cases this
     have hmi : m = i := by
      by_cases e : m = i
      · exact e
      · have := ahead xo m xo
        rw [hno m (Nat.le_refl _)] at this
        cases this
     exact later m hnm hmi hno hyes hw
 · rintro L a w hs hall hI
   rw [List.size_toArray] at hall
   rcases hI with ⟨hno, u, rfl, hJw, hG⟩ | ⟨m, hnm, hml, hyes, hno, hw⟩
   · have hnl : n = l.length := by
       by_cases e : n = l.length
       · exact e
       · have := hall n xo; rw [hno n (Nat.le_refl _)] at this; cases this
     have hq := hdone u w hJw fun k p hp => hG k p hp (hall k (by have := (htk.1 hp).1; omega))
     have hd : l.drop n = [] := by rw [hnl]; exact List.drop_length
     rw [hd] at hq
     exact hq
   · have hml' : m = l.length := by
       by_cases e : m = l.length
       · exact e
       · have := hall m xo; rw [hno m (Nat.le_refl _)] at this; cases this
     rw [hml', List.drop_length] at hw
     exact hw
 · rw [List.size_toArray] at h
   simp [Array.getD] at h
end
end
end Go.Proofs.YtookgoidlnlckaaDoor
