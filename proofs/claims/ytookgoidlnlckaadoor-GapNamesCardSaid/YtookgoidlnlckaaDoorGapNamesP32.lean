/- Merged: GnWalk, DownPlain, DownMay, IdxLaw, Split, Find. -/
import Derived.Test.YtookgoidlnlckaaDoorGapNamesP31
import Derived.Test.YtookgoidlnlckaaDoorGapNamesP13
import Derived.Test.YtookgoidlnlckaaDoorGapNamesP20
namespace Go.Proofs.YtookgoidlnlckaaDoor
set_option maxRecDepth 100000
set_option maxHeartbeats 40000000
set_option linter.unusedVariables false
set_option linter.unusedSimpArgs false
section
open Go.RowKit
def pr8 : List (Int × Int) := (List.range 8).map fun (j : Nat) => ((j : Int), (0 : Int))
def pr9 : List (Int × Int) := pr8 ++ [(0, 0)]
def sN : SlC := newC chG
def xN : SlC := loadC chG sN pr8
def yN : SlC := takC chG xN 7
theorem L8_eq : prI pr8 = L8 := by decide
theorem L9_eq : prI pr9 = L9 := by decide
theorem names_1 : cfE chG = 0 ∧ loadE chG sN pr8 = 0 ∧ loadE chG sN pr9 = 9 ∧ putE chG xN 8 = 9 ∧ putE chG sN 1 = 2 ∧ takE chG sN 0 = 2 ∧ takE chG xN 7 = 0 := by decide +kernel
theorem names_2 : xN.ks.length = 16 ∧ yN.ks.length = 16 ∧ xN.laid = 8 ∧ (∀ n, n < 8 → xN.ks.getD (2 * n) 0 = (n : Int)) ∧ (∀ n, n < 7 → yN.ks.getD (2 * n) 0 = (n : Int)) ∧ 0 < yN.cs.length := by decide +kernel
theorem names_3 : gapE chG ⟨yN.seg, yN.ws, yN.ks, yN.vs, yN.cs.set 0 1, yN.laid⟩ = 8 ∧ gapE chG nilC = 8 := by decide +kernel
theorem names_4 : cfE ⟨0, 0, 0, 0, 0, 0, 0, 0, 0⟩ = 50 ∧ newC ⟨0, 0, 0, 0, 0, 0, 0, 0, 0⟩ = nilC := ⟨by decide +kernel, by unfold newC; rw [if_neg (by decide +kernel)]⟩
theorem load_numsN (c : Cfg) (s : SlC) (L : List (Int × Int)) : (loadC c s L).ws.length ≤ 1000000 ∧ (loadC c s L).ks.length ≤ 1000000 ∧ (loadC c s L).vs.length ≤ 1000000 ∧ (loadC c s L).cs.length ≤ 1000000 ∧ U64s (loadC c s L).ws := by
 unfold loadC
 split
 · rename_i h
   obtain ⟨hc, a, H, k, hs, -, -⟩ := gap_zero h.1
   obtain ⟨e1, e2, e3, e4, e5, e6⟩ := cap_facts k h.2
   obtain ⟨p1, p2, p3, p4, p5, p6⟩ := k.pows
   rw [e1]
   exact gd_nums ((emptyL_gd p1 p2 e3 e4 s.laid).sp (Nat.zero_le _) (Nat.le_refl _) xo)
 · exact nil_nums
theorem loadC_noN {c : Cfg} {s : SlC} {L : List (Int × Int)} (h : loadE c s L ≠ 0) : loadC c s L = nilC := by
 unfold loadC
 rw [if_neg]
 rintro ⟨h1, h2⟩
 exact h (by rw [loadE, if_pos h1, if_pos h2])
theorem GapNames_walk (w : World) (hT : TabAt w) : Calls Tryd.prog 4 #[] w (AnsB w (.bool true)) := by
 have n0 : sN.ws.length ≤ 1000000 ∧ sN.ks.length ≤ 1000000 ∧ sN.vs.length ≤ 1000000 ∧ sN.cs.length ≤ 1000000 ∧ U64s sN.ws := new_nums9 chG
 have n1 : xN.ws.length ≤ 1000000 ∧ xN.ks.length ≤ 1000000 ∧ xN.vs.length ≤ 1000000 ∧ xN.cs.length ≤ 1000000 ∧ U64s xN.ws := load_numsN chG sN pr8
 have n2 : yN.ws.length ≤ 1000000 ∧ yN.ks.length ≤ 1000000 ∧ yN.vs.length ≤ 1000000 ∧ yN.cs.length ≤ 1000000 ∧ U64s yN.ws := take_nums chG xN n1.2.2.2.2 7
 obtain ⟨a1, a2, a3, a4, a5, a6, a7⟩ := names_1
 obtain ⟨b1, b2, b3, b4, b5, b6⟩ := names_2
 obtain ⟨d1, d2⟩ := names_3
 obtain ⟨f1, f2⟩ := names_4
 refine names_core chG sN xN yN b1 b2 b3 b4 b5 b6 n0.2.2.2.2 n1.2.2.2.2 n2.2.2.2.2 w (hid fun W => chap9_ok W) (hid fun W => ?_) (hid fun W => ?_) (hid fun W sa la lc hb hi hc hl => ?_) (hid fun W sa la lc hb hi hc hl => ?_) (hid fun W sa hb hi hc => ?_) (hid fun W sa hb hi hc => ?_) (hid fun W sa hb hi hc => ?_) (hid fun W sa hb hi hc => ?_) (hid fun W hb => alive9_ok W (hT.below hb)) (hid fun W sa hb hi hc => ?_) (hid fun W hb => ?_)
 · have := gapNew_ok chG W
   rw [a1] at this
   exact this
 · have := gapNew_ok ⟨0, 0, 0, 0, 0, 0, 0, 0, 0⟩ W
   rw [f1, f2] at this
   exact this
 · have := gapLoad_ok chG sN sa xo xo hc pr8 la lc W hi (by rw [L8_eq]; exact hl)
   rw [a2] at this
   exact this
 · have := gapLoad_ok chG sN sa xo xo hc pr9 la lc W hi (by rw [L9_eq]; exact hl)
   rw [a3, loadC_noN (by rw [a3]; decide)] at this
   exact this
 · have := gapPut_ok chG xN sa xo xo hc 8 0 0 W hi (hT.below hb)
   rw [a4, putC, if_neg (by rw [a4]; decide)] at this
   exact this
 · have := gapPut_ok chG sN sa xo xo hc 1 0 0 W hi (hT.below hb)
   rw [a5, putC, if_neg (by rw [a5]; decide)] at this
   exact this
 · have := gapTake_ok chG sN sa xo xo hc 0 W hi (hT.below hb)
   rw [a6, takC, if_neg (by rw [a6]; decide)] at this
   exact this
 · have := gapTake_ok chG xN sa xo xo hc 7 W hi (hT.below hb)
   rw [a7] at this
   exact this
 · have := gapCheck_ok chG ⟨yN.seg, yN.ws, yN.ks, yN.vs, yN.cs.set 0 1, yN.laid⟩ sa (by dsimp only; omega) (by dsimp only; omega) (by dsimp only; rw [List.length_set]; exact hc) W hi
   rw [d1] at this
   exact this
 · have := gapCheck_ok chG nilC ⟨none, none, none, none, 0, 0, 0, 0⟩ (by decide) (by decide) (Nat.le_refl _) W ⟨fun i hi => (by cases hi), fun i hi => (by cases hi), fun i hi => (by cases hi), fun i hi => (by cases hi), fun x hx => by cases hx⟩
   rw [d2] at this
   exact this
end
section
open Go.RowKit
section
variable {f g : Nat → Int}
def lvs (f g : Nat → Int) : Nat → Nat → List (Int × Int)
  | 0, n => [(f n, g n)]
  | d + 1, n => lvs f g d (2 * n) ++ lvs f g d (2 * n + 1)
theorem lvs_length : ∀ d n, (lvs f g d n).length = 2 ^ d := by
 intro d
 induction d with
 | zero => intro n; rfl
 | succ d ih => intro n; rw [lvs, List.length_append, ih, ih, Nat.pow_succ]; omega
theorem lvs_get : ∀ d n i, i < 2 ^ d → (lvs f g d n)[i]? = some (f (n * 2 ^ d + i), g (n * 2 ^ d + i)) := by
 intro d
 induction d with
 | zero =>
  intro n i hi
  have : i = 0 := by simp at hi; exact hi
  subst this
  simp [lvs]
 | succ d ih =>
  intro n i hi
  rw [Nat.pow_succ] at hi
  rw [lvs]
  by_cases h : i < 2 ^ d
  · rw [List.getElem?_append_left (by rw [lvs_length]; exact h), ih _ _ h]
    rw [show n * 2 ^ (d + 1) + i = 2 * n * 2 ^ d + i by rw [Nat.pow_succ, Nat.mul_comm 2 n, Nat.mul_assoc, Nat.mul_comm 2]]
  · rw [List.getElem?_append_right (by rw [lvs_length]; omega), lvs_length, ih _ _ xo]
    rw [show n * 2 ^ (d + 1) + i = (2 * n + 1) * 2 ^ d + (i - 2 ^ d) by rw [Nat.pow_succ, Nat.add_mul, Nat.mul_comm 2 n, Nat.mul_assoc, Nat.mul_comm 2]; omega]
def Good (f g : Nat → Int) : Nat → Nat → Prop
  | 0, n => ownB (f n) (g n) = true
  | d + 1, n => ownB (f n) (g n) = true ∧ joinR (f n) (g n) (f (2 * n)) (g (2 * n)) (f (2 * n + 1)) (g (2 * n + 1)) = true ∧ Good f g d (2 * n) ∧ Good f g d (2 * n + 1)
theorem Good.own : ∀ {d n}, Good f g d n → ownB (f n) (g n) = true
  | 0, _, h => h
  | _ + 1, _, h => h.1
def cntL (l : List (Int × Int)) : Int := (l.map (·.2)).sum
theorem cntL_append (a b : List (Int × Int)) : cntL (a ++ b) = cntL a + cntL b := by simp [cntL]
theorem join_facts {m c am ac bm bc : Int} (h : joinR m c am ac bm bc = true) : c = ac + bc ∧ (0 < bc → m = bm) ∧ (¬ 0 < bc → m = am) ∧ (0 < ac → 0 < bc → am < bm) := by
 simp only [joinR, Bool.and_eq_true, Bool.or_eq_true, decide_eq_true_eq] at h
 obtain ⟨⟨⟨⟨⟨h1, h2⟩, h3⟩, h4⟩, h5, h6⟩, h7⟩ := h
 unfold abM at h5
 refine ⟨by omega, fun hb => by rw [if_pos hb] at h5; exact h5, fun hb => by rw [if_neg hb] at h5; exact h5, fun ha hb => by rcases h7 with (h7 | h7) | h7 <;> omega⟩
theorem Good.cnt : ∀ {d n}, Good f g d n → cntL (lvs f g d n) = g n := by
 intro d
 induction d with
 | zero => intro n _; simp [lvs, cntL]
 | succ d ih =>
  intro n h
  obtain ⟨h1, h2, h3, h4⟩ := h
  rw [lvs, cntL_append, ih h3, ih h4, (join_facts h2).1]
def srv (key m c : Int) : Prop := 0 < c ∧ key ≤ m
instance (key m c : Int) : Decidable (srv key m c) := by unfold srv; infer_instance
end
end
section
open Go.RowKit
theorem lvs_take {f g : Nat → Int} {D d m : Nat} (hd : d ≤ D) (h1 : 2 ^ D ≤ m * 2 ^ d) (h2 : (m + 1) * 2 ^ d ≤ 2 * 2 ^ D) :
    (lvs f g D 1).take (m * 2 ^ d - 2 ^ D + 2 ^ d) = (lvs f g D 1).take (m * 2 ^ d - 2 ^ D) ++ lvs f g d m := by
 rw [Nat.add_mul, Nat.one_mul] at h2
 obtain ⟨P, hP⟩ : ∃ P, m * 2 ^ d = P := ⟨_, rfl⟩
 rw [hP] at h1 h2 ⊢
 have p1 := Nat.two_pow_pos d
 have p2 := Nat.two_pow_pos D
 generalize hQ : 2 ^ D = Q at h1 h2 p2 ⊢
 generalize hR : 2 ^ d = R at h2 p1 ⊢
 have e : ((lvs f g D 1).take (P - Q)).length = P - Q := by
  rw [List.length_take, lvs_length, hQ]
  omega
 refine List.ext_getElem? fun k => ?_
 by_cases hk : k < P - Q
 · rw [List.getElem?_take, if_pos xo, List.getElem?_append_left (by rw [e]; exact hk), List.getElem?_take, if_pos hk]
 · rw [List.getElem?_append_right (by rw [e]; omega), e]
   by_cases hk2 : k < P - Q + R
   · rw [List.getElem?_take, if_pos hk2, lvs_get _ _ _ (by rw [hQ]; omega), lvs_get _ _ _ (by rw [hR]; omega), hP, hQ]
     rw [show 1 * Q + k = P + (k - (P - Q)) by omega]
   · rw [List.getElem?_take, if_neg hk2, List.getElem?_eq_none (by rw [lvs_length, hR]; omega)]
theorem Good.ahead {f g : Nat → Int} {D d m : Nat} (h : Good f g d m) (hd : d ≤ D) (h1 : 2 ^ D ≤ m * 2 ^ d) (h2 : (m + 1) * 2 ^ d ≤ 2 * 2 ^ D) :
    cntL ((lvs f g D 1).take (m * 2 ^ d - 2 ^ D + 2 ^ d)) = cntL ((lvs f g D 1).take (m * 2 ^ d - 2 ^ D)) + g m := by
 rw [lvs_take hd h1 h2, cntL_append, h.cnt]
end
section
open Go.RowKit
theorem plsW_append (ws : List Int) {a b d : Nat} (h1 : a ≤ b) (h2 : b ≤ d) : plsW ws a b ++ plsW ws b d = plsW ws a d := by
 unfold plsW
 rw [← List.filter_append]
 congr 1
 have := List.range'_append_1 (s := a) (m := b - a) (n := d - b)
 rw [show a + (b - a) = b by omega, show b - a + (d - b) = d - a by omega] at this
 exact this
theorem prs_append (c : SlC) {a b d : Nat} (h1 : a ≤ b) (h2 : b ≤ d) : prs c a b ++ prs c b d = prs c a d := by
 unfold prs
 rw [← List.map_append, plsW_append c.ws h1 h2]
def Ris (l : List (Int × Int)) : Prop := l.Pairwise fun p q => p.1 < q.1
theorem Ris.apart {a b : List (Int × Int)} (h : Ris (a ++ b)) : Ris a ∧ Ris b ∧ ∀ p ∈ a, ∀ q ∈ b, p.1 < q.1 := by
 have := List.pairwise_append.1 h
 exact this
theorem Ris.prs {c : SlC} {n : Nat} (h : Ris (prs c 0 n)) {a b : Nat} (h1 : a ≤ b) (h2 : b ≤ n) : Ris (Go.Proofs.YtookgoidlnlckaaDoor.prs c a b) := by
 rw [← prs_append c (Nat.zero_le b) h2] at h
 have h3 := h.apart.1
 rw [← prs_append c (Nat.zero_le a) h1] at h3
 exact h3.apart.2.1
end
section
open Go.RowKit Go.Shelf
end
section
open Go.RowKit Go.Shelf
end
end Go.Proofs.YtookgoidlnlckaaDoor
