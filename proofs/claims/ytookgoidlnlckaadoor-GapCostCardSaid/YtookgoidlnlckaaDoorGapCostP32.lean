/- Merged: GcWalk, Open, OpenIx, OpenSl, OpenCf, OpenSlc, OpenPr, DownPlain, DownMay, IdxLaw, Split, Find. -/
import Derived.Test.YtookgoidlnlckaaDoorGapCostP31
import Derived.Test.YtookgoidlnlckaaDoorGapCostP1
import Derived.ProofKit
import Derived.OpenShut
import Derived.ShutString
import Derived.ChangeOld
import Derived.Below
import Derived.Lib.SmallJoins
import Derived.Test.YtookgoidlnlckaaDoorGapCostP7
import Derived.Test.YtookgoidlnlckaaDoorGapCostP2
import Derived.Test.YtookgoidlnlckaaDoorGapCostP3
import Derived.Test.YtookgoidlnlckaaDoorGapCostP12
import Derived.Deep.SlicePairs
import Derived.Test.YtookgoidlnlckaaDoorGapCostP22
namespace Go.Proofs.YtookgoidlnlckaaDoor
set_option maxRecDepth 100000
set_option maxHeartbeats 40000000
set_option linter.unusedVariables false
set_option linter.unusedSimpArgs false
section
open Go.RowKit
theorem gr4_ofC {n lk lv lw lc : Nat} (h : gr4 n lk lv lw lc = false) : lk ≤ n ∧ lv ≤ n ∧ lw ≤ n ∧ lc ≤ n := by
 simp only [gr4, Bool.or_eq_false_iff, decide_eq_false_iff_not] at h
 omega
theorem clear9_ok {c : Cfg} {s : SlC} {a H : Nat} (kn : GapN c s a H) (sa : SlA) (hl : s.ws.length ≤ 1000000000000) (hl2 : s.ks.length ≤ 1000000000000) (at_ : Nat) (hat : at_ < s.ks.length) (hbit : bitW s.ws at_ = true) (W : World) (hin : SlIn W s sa) :
    Calls Tryd.prog 14 #[slV s sa, .int .i64 at_] W (FreshSl2 W (tkC s at_) (.int .i64 0)) := by
 obtain ⟨g, hlw⟩ := gapN_gd kn hin.u
 obtain ⟨p1, p2, p3, p4, p5, p6⟩ := kn.pows
 have AT : ∀ W', Below W.heap.size W W' → Calls Tryd.prog 40 #[slV s sa, .int .i64 at_] W' (AnsB W' (.tuple #[.agg #[.int .i64 (s.ks.getD at_ 0), .int .i64 (s.vs.getD at_ 0)], .int .i64 0])) := fun W' hb' => by
  have := At4_ok s sa hl hl2 at_ W' (hin.below hb')
  have e1 : askS s at_ = 0 := by rw [askS, if_pos kn.may, if_pos ⟨by omega, by omega⟩]
  rw [atS, if_pos e1, Int.toNat_natCast, if_pos hbit] at this
  exact this
 have hv := g.elv
 have hcl := g.elc
 have hwl := g.elw
 have hpH := Nat.two_pow_pos H
 have hs4 := g.s4
 have TW : ∀ W', Below W.heap.size W W' → Calls Tryd.prog 41 #[slV s sa] W' (FreshSlN W' s) := fun W' hb' => slTwin_ok s sa W' (hin.below hb') xo xo xo xo
 have hvk : s.vs.length = s.ks.length := hv
 unfold slV at AT TW ⊢
 rw [hvk] at AT TW ⊢
 exact slClr_core W s.seg sa.wa sa.ka sa.va sa.ca sa.wc sa.kc sa.vc sa.cc s.ws.length s.ks.length s.cs.length s.laid s at_ (2 ^ a) (s.ks.getD at_ 0) (s.vs.getD at_ 0) rfl rfl rfl rfl hvk rfl xo xo xo p4 xo p3 g.seg g.s4 hat (by have := g.wn; omega) (by have := g.cn; rw [hcl]; exact this) g.ok (hid AT) (hid TW)
theorem nthV_home (s : SlC) (n : Nat) : nthV s.ws s.ks.length (n - 1) = ((homeC s n : Nat) : Int) := by
 unfold nthV homeC
 split
 · rfl
 · rename_i h
   rw [List.getD_eq_getElem?_getD, List.getElem?_eq_none xo]
   rfl
theorem GapCost_walk (w : World) (c : Cfg) (s : SlC) (sa : SlA) (hin : SlIn w s sa) (hcs : s.cs.length ≤ sa.cc) (hl0 : 0 ≤ s.laid) (hl1 : s.laid < 18446744073709551616) (k px py : Int) (hT : TabAt w) :
    Calls Tryd.prog 3 #[cfV c, slV s sa, .int .i64 k, .agg #[.int .i64 px, .int .i64 py]] w (AnsB w (.bool true)) := by
 have AL : Hid (∀ (W : World), Below w.heap.size w W → Calls Tryd.prog 7 #[] W (AnsB W (.bool true))) := hid fun W hb => alive9_ok W (hT.below hb)
 cases hgr : gr4 600 s.ks.length s.vs.length s.ws.length s.cs.length with
 | true => exact GK_great c s _ _ _ _ _ _ _ _ k px py hgr w AL
 | false =>
  have g := gr4_ofC hgr
  have n2 := put_nums c s hin.u k (px, py)
  have n3 := take_nums c s hin.u k
  have hmn : ∀ {a H : Nat}, GapN c s a H → manyC s ≤ s.ks.length := fun _ => by have := cntW_le s.ws 0 s.ks.length; unfold manyC; omega
  have htk : ∀ (he : takE c s k = 0), ∃ a H, GapN c s a H ∧ s.seg = c.seg ∧ cfMay c = true ∧ 0 ≤ k ∧ k.toNat < manyC s ∧ takC c s k = takN c s a H k.toNat ∧ bitW s.ws ((plsW s.ws 0 s.ks.length).getD k.toNat 0) = true ∧ (plsW s.ws 0 s.ks.length).getD k.toNat 0 < s.ks.length ∧ k.toNat < (plsW s.ws 0 s.ks.length).length := fun he => by
   obtain ⟨h0, k0, k1⟩ := take_zero he
   obtain ⟨hc, a, H, kn, hs, hmost, hden⟩ := gap_zero h0
   have hn' : k.toNat < (plsW s.ws 0 s.ks.length).length := by rw [plsW_length]; unfold manyC at k1; omega
   obtain ⟨-, hb, ha⟩ := pls_rank hn'
   exact ⟨a, H, kn, hs, hc, k0, by omega, by rw [takC, if_pos he, sgL_eq kn.cap.seg, kn.cap.hgt], hb, ha, hn'⟩
  have hbu : U64s (tkC s ((plsW s.ws 0 s.ks.length).getD k.toNat 0)).ws ∨ ¬ takE c s k = 0 := by
   by_cases he : takE c s k = 0
   · obtain ⟨a, H, kn, hs, hc, k0, k1, e, hb, ha, -⟩ := htk he
     exact .inl (take_in kn hin.u ha hb).2.1.u
   · exact .inr he
  refine GK_in c s _ _ _ _ _ _ _ _ k px py (putC c s k (px, py)) (if takE c s k = 0 then tkC s ((plsW s.ws 0 s.ks.length).getD k.toNat 0) else nilC) (takC c s k) (putE c s k) (takE c s k) (homeC s k.toNat : Nat) ((plsW s.ws 0 s.ks.length).getD k.toNat 0 : Nat) (nthE s.ws s.ks.length (k.toNat - 1)) w hgr n2.2.2.2.2 ?_ n3.2.2.2.2 (fun he => ?_) AL
    (hid fun W hb => gapPut_ok c s sa xo xo hcs k px py W (hin.below hb) (hT.below hb))
    (hid fun W hb => gapTake_ok c s sa xo xo hcs k W (hin.below hb) (hT.below hb))
    (fun he => hid fun W hb => ?_) (fun he => hid fun W hb => ?_) (fun he => hid fun W a2 lo hi h1 h2 hi2 => ?_) (fun he => hid fun W hb => ?_) (fun he => hid fun W hb => ?_) (fun he => hid fun W a2 hb hi2 => ?_) (fun he => hid fun W a2 lo hi h1 h2 hi2 => ?_)
  · split
    · rename_i he
      rcases hbu with h | h
      · exact h
      · exact absurd he h
    · exact fun x hx => by cases hx
  · obtain ⟨h0, k0, k1, k2⟩ := put_zero he
    obtain ⟨hc, a, H, kn, hs, -, -⟩ := gap_zero h0
    have := hmn kn
    omega
  · obtain ⟨h0, k0, k1, k2⟩ := put_zero he
    obtain ⟨hc, a, H, kn, hs, -, -⟩ := gap_zero h0
    have p4 := kn.pows.2.2.2.1
    have := hmn kn
    have r := Nth_ok sa.wa sa.wc s.ws hin.u s.ks.length (k.toNat - 1) p4 xo xo (may_w kn) W (hin.below hb).w (hT.below hb)
    have e : nthV s.ws s.ks.length (k.toNat - 1) = ((homeC s k.toNat : Nat) : Int) := nthV_home s k.toNat
    rwa [e] at r
  · obtain ⟨h0, k0, k1, k2⟩ := put_zero he
    obtain ⟨hc, a, H, kn, hs, hmost, -⟩ := gap_zero h0
    rw [sum_many kn hin.u] at hmost
    refine (part9_ok kn hs hin.u sa (homeC s k.toNat) (homeC_lt kn.pows.2.2.2.2.1 _) 1 (.inl rfl) W (hin.below hb)).mono ?_
    rintro e w' ⟨x, y, z, he2, hr, hb2⟩
    refine ⟨x, y, z, he2, ?_, hb2⟩
    have e3 : (fun h => if (1 : Int) = 1 then ovB c s a H (homeC s k.toNat) h else unfB c s a H (homeC s k.toNat) h) = ovB c s a H (homeC s k.toNat) := by funext h; rw [if_pos rfl]
    rw [e3] at hr
    rw [putC, if_pos he, sgL_eq kn.cap.seg, kn.cap.hgt]
    exact put_cost kn hc hin.u xo hl0 hl1 k.toNat xo (px, py) x y z hr
  · exact count_res (put_res hin.u (px, py) he).1 n2.2.2.2.2 a2 lo hi h1 h2 W hi2
  · obtain ⟨a, H, kn, hs, hc, k0, k1, e, hbt, ha, hn'⟩ := htk he
    have p4 := kn.pows.2.2.2.1
    have := hmn kn
    have r := Nth_ok sa.wa sa.wc s.ws hin.u s.ks.length k.toNat p4 xo xo (may_w kn) W (hin.below hb).w (hT.below hb)
    rw [nthV, nthE, if_pos hn', if_pos hn'] at r
    rwa [show ((k.toNat : Nat) : Int) = k by omega] at r
  · obtain ⟨a, H, kn, hs, hc, k0, k1, e, hbt, ha, -⟩ := htk he
    rw [if_pos he]
    exact clear9_ok kn sa xo xo _ ha hbt W (hin.below hb)
  · obtain ⟨a, H, kn, hs, hc, k0, k1, e, hbt, ha, -⟩ := htk he
    rw [if_pos he] at hi2 ⊢
    obtain ⟨kz, gz, zl, -, -, -⟩ := take_in kn hin.u ha hbt
    refine (part9_ok kz hs gz.u a2 _ xo 0 (.inr rfl) W hi2).mono ?_
    rintro e' w' ⟨x, y, z, he2, hr, hb2⟩
    refine ⟨x, y, z, he2, ?_, hb2⟩
    have e3 : ∀ q at_, (fun h => if (0 : Int) = 1 then ovB c q a H at_ h else unfB c q a H at_ h) = unfB c q a H at_ := fun q at_ => by funext h; rw [if_neg (by decide)]
    rw [e3] at hr
    rw [e]
    exact take_cost kn hin.u hl0 hl1 k.toNat k1 x y z hr
  · exact count_res (take_res hin.u he).1 n3.2.2.2.2 a2 lo hi h1 h2 W hi2
end
section
open Go.ChangeShapes Go.WideShapes Go.ChangeAt Go.RowKit Go.Joins
end
section
open Go.ChangeShapes Go.WideShapes Go.ChangeAt Go.RowKit Go.Joins
theorem open_rowK {H : Type} {enc : TypeId × Value → H} {w : World} {fuel : Nat} {base : Nat} {spare : Nat → Bool} {held : Bool} {t e : TypeId} {k : IntKind} {cs : List Value} {x : DataW H × List MemPlace}
    (ht : Tryd.prog.underlying t = some (.slice e)) (he : Tryd.prog.underlying e = some (.int k)) (hc : Tryd.prog.cellsOf e = 1) (h : DataW.trod enc Tryd.prog w base spare held fuel t cs = some x) :
    ∃ (ao : Option Addr) (xs : List Int) (cap : Nat), cs = [.slice ao xs.length cap] ∧ IsRow k w ao xs ∧ (ao = none → cap = 0) ∧ xs.length ≤ maxLen ∧ (∀ n ∈ xs, (Lit.int k n).wf = true) := by
 rcases open_ints ht he hc h with ⟨rfl, rfl⟩ | ⟨a, len, cap, zs, rfl, hb, hl, hm, hz, rfl, hc, hw⟩
 · exact ⟨none, [], 0, rfl, fun i hi => by simp at hi, fun _ => rfl, by simp, by simp⟩
 · have hlen : len ≤ zs.length := by rw [hz]; split <;> omega
   refine ⟨some a, zs.take len, cap, by simp [hlen], ?_, fun h => (by cases h), by simp; omega, fun n hn => hw n (List.mem_of_mem_take hn)⟩
   intro i hi
   have hi' : i < len := by simp at hi; omega
   obtain ⟨b, off, sp⟩ := a
   have h0 := hc 0 xo
   obtain rfl : sp = none := by simpa [Addr.add] using World.cell?_spot h0
   refine ⟨b, off, rfl, ?_, fun j hj => ?_⟩
   · have := World.block_lt_of_cell? w _ h0
     simpa [Addr.add] using this
   · have hj' : j < len := by simp at hj; omega
     have := hc j xo
     rw [Addr.add_lit] at this
     rw [this]
     simp [List.getD_eq_getElem?_getD, List.getElem?_take, hj']
end
section
open Go.ChangeShapes Go.WideShapes Go.ChangeAt Go.RowKit Go.Joins Go.Deep Go.WideElems
theorem array_six {α : Type} {cs : Array α} (h : cs.size = 6) : ∃ c0 c1 c2 c3 c4 c5, cs = #[c0, c1, c2, c3, c4, c5] := by
 obtain ⟨l⟩ := cs
 match l, h with
 | [c0, c1, c2, c3, c4, c5], _ => exact ⟨c0, c1, c2, c3, c4, c5, rfl⟩
theorem trod_struct_six {P : Program} {H : Type} {enc : TypeId × Value → H} {w : World} {base : Nat} {spare : Nat → Bool} {held : Bool} {t : TypeId} {f0 f1 f2 f3 f4 f5 : Field} {fuel : Nat} {cs : List Value} {x : DataW H × List MemPlace} (ht : P.underlying t = some (.struct #[f0, f1, f2, f3, f4, f5])) (h : DataW.trod enc P w base spare held fuel t cs = some x) :
    ∃ y0 y1 y2 y3 y4 y5 n, DataW.trod enc P w base spare held n f0.type ((cs.drop f0.offset).take (P.cellsOf f0.type)) = some y0 ∧ DataW.trod enc P w base spare held n f1.type ((cs.drop f1.offset).take (P.cellsOf f1.type)) = some y1 ∧ DataW.trod enc P w base spare held n f2.type ((cs.drop f2.offset).take (P.cellsOf f2.type)) = some y2 ∧
      DataW.trod enc P w base spare held n f3.type ((cs.drop f3.offset).take (P.cellsOf f3.type)) = some y3 ∧ DataW.trod enc P w base spare held n f4.type ((cs.drop f4.offset).take (P.cellsOf f4.type)) = some y4 ∧ DataW.trod enc P w base spare held n f5.type ((cs.drop f5.offset).take (P.cellsOf f5.type)) = some y5 := by
 obtain ⟨xs, n, _, rfl, hl, hlen, hf⟩ := DataW.trod_struct ht h
 match xs, hlen with
 | [y0, y1, y2, y3, y4, y5], _ => exact ⟨y0, y1, y2, y3, y4, y5, n, by simpa using hf 0 f0 rfl, by simpa using hf 1 f1 rfl, by simpa using hf 2 f2 rfl, by simpa using hf 3 f3 rfl, by simpa using hf 4 f4 rfl, by simpa using hf 5 f5 rfl⟩
theorem open_six {P : Program} {H : Type} {enc : TypeId × Value → H} {w : World} {base : Nat} {spare : Nat → Bool} {held : Bool} {r : Reach} {b0 : Nat} {t : TypeId} {f0 f1 f2 f3 f4 f5 : Field} {v : Value} {d : DataW H} {p : List MemPlace} (hs : P.underlying t = some (.struct #[f0, f1, f2, f3, f4, f5])) (hone : oneCellFields P #[f0, f1, f2, f3, f4, f5] = true) (hC : P.cellsOf t = 6)
    (hv : Value.okWide P w r b0 t v) (h : DataW.Trod enc P w base spare held t v d p) :
    ∃ (v0 v1 v2 v3 v4 v5 : Value) (y0 y1 y2 y3 y4 y5 : DataW H × List MemPlace) (n : Nat), v = .agg #[v0, v1, v2, v3, v4, v5] ∧
      DataW.trod enc P w base spare held n f0.type [v0] = some y0 ∧ DataW.trod enc P w base spare held n f1.type [v1] = some y1 ∧ DataW.trod enc P w base spare held n f2.type [v2] = some y2 ∧ DataW.trod enc P w base spare held n f3.type [v3] = some y3 ∧ DataW.trod enc P w base spare held n f4.type [v4] = some y4 ∧ DataW.trod enc P w base spare held n f5.type [v5] = some y5 := by
 obtain ⟨cs, rfl, hsz⟩ := okWide_struct hs hv
 obtain ⟨c0, c1, c2, c3, c4, c5, rfl⟩ := array_six (hsz.trans hC)
 obtain ⟨fuel, hf⟩ := h
 obtain ⟨y0, y1, y2, y3, y4, y5, n, h0, h1, h2, h3, h4, h5⟩ := trod_struct_six hs hf
 obtain ⟨o0, k0⟩ := hone_of hone 0 f0 rfl
 obtain ⟨o1, k1⟩ := hone_of hone 1 f1 rfl
 obtain ⟨o2, k2⟩ := hone_of hone 2 f2 rfl
 obtain ⟨o3, k3⟩ := hone_of hone 3 f3 rfl
 obtain ⟨o4, k4⟩ := hone_of hone 4 f4 rfl
 obtain ⟨o5, k5⟩ := hone_of hone 5 f5 rfl
 exact ⟨c0, c1, c2, c3, c4, c5, y0, y1, y2, y3, y4, y5, n, rfl, by simpa [Value.cells, o0, k0] using h0, by simpa [Value.cells, o1, k1] using h1, by simpa [Value.cells, o2, k2] using h2, by simpa [Value.cells, o3, k3] using h3, by simpa [Value.cells, o4, k4] using h4, by simpa [Value.cells, o5, k5] using h5⟩
theorem u64_wf {n : Int} (h : (Lit.int .u64 n).wf = true) : 0 ≤ n ∧ n < 18446744073709551616 := by
 simp [Lit.wf, IntKind.min, IntKind.max, IntKind.signed, IntKind.bits] at h
 omega
end
section
open Go.ChangeShapes Go.WideShapes Go.ChangeAt Go.RowKit Go.Joins Go.Deep Go.WideElems
theorem array_nine {α : Type} {cs : Array α} (h : cs.size = 9) : ∃ c0 c1 c2 c3 c4 c5 c6 c7 c8, cs = #[c0, c1, c2, c3, c4, c5, c6, c7, c8] := by
 obtain ⟨l⟩ := cs
 match l, h with
 | [c0, c1, c2, c3, c4, c5, c6, c7, c8], _ => exact ⟨c0, c1, c2, c3, c4, c5, c6, c7, c8, rfl⟩
theorem trod_struct_nine {P : Program} {H : Type} {enc : TypeId × Value → H} {w : World} {base : Nat} {spare : Nat → Bool} {held : Bool} {t : TypeId} {f0 f1 f2 f3 f4 f5 f6 f7 f8 : Field} {fuel : Nat} {cs : List Value} {x : DataW H × List MemPlace} (ht : P.underlying t = some (.struct #[f0, f1, f2, f3, f4, f5, f6, f7, f8])) (h : DataW.trod enc P w base spare held fuel t cs = some x) :
    ∃ y0 y1 y2 y3 y4 y5 y6 y7 y8 n, DataW.trod enc P w base spare held n f0.type ((cs.drop f0.offset).take (P.cellsOf f0.type)) = some y0 ∧ DataW.trod enc P w base spare held n f1.type ((cs.drop f1.offset).take (P.cellsOf f1.type)) = some y1 ∧ DataW.trod enc P w base spare held n f2.type ((cs.drop f2.offset).take (P.cellsOf f2.type)) = some y2 ∧ DataW.trod enc P w base spare held n f3.type ((cs.drop f3.offset).take (P.cellsOf f3.type)) = some y3 ∧ DataW.trod enc P w base spare held n f4.type ((cs.drop f4.offset).take (P.cellsOf f4.type)) = some y4 ∧ DataW.trod enc P w base spare held n f5.type ((cs.drop f5.offset).take (P.cellsOf f5.type)) = some y5 ∧ DataW.trod enc P w base spare held n f6.type ((cs.drop f6.offset).take (P.cellsOf f6.type)) = some y6 ∧ DataW.trod enc P w base spare held n f7.type ((cs.drop f7.offset).take (P.cellsOf f7.type)) = some y7 ∧ DataW.trod enc P w base spare held n f8.type ((cs.drop f8.offset).take (P.cellsOf f8.type)) = some y8 := by
 obtain ⟨xs, n, _, rfl, hl, hlen, hf⟩ := DataW.trod_struct ht h
 match xs, hlen with
 | [y0, y1, y2, y3, y4, y5, y6, y7, y8], _ => exact ⟨y0, y1, y2, y3, y4, y5, y6, y7, y8, n, by simpa using hf 0 f0 rfl, by simpa using hf 1 f1 rfl, by simpa using hf 2 f2 rfl, by simpa using hf 3 f3 rfl, by simpa using hf 4 f4 rfl, by simpa using hf 5 f5 rfl, by simpa using hf 6 f6 rfl, by simpa using hf 7 f7 rfl, by simpa using hf 8 f8 rfl⟩
theorem open_nine {P : Program} {H : Type} {enc : TypeId × Value → H} {w : World} {base : Nat} {spare : Nat → Bool} {held : Bool} {r : Reach} {b0 : Nat} {t : TypeId} {f0 f1 f2 f3 f4 f5 f6 f7 f8 : Field} {v : Value} {d : DataW H} {p : List MemPlace} (hs : P.underlying t = some (.struct #[f0, f1, f2, f3, f4, f5, f6, f7, f8])) (hone : oneCellFields P #[f0, f1, f2, f3, f4, f5, f6, f7, f8] = true) (hC : P.cellsOf t = 9)
    (hv : Value.okWide P w r b0 t v) (h : DataW.Trod enc P w base spare held t v d p) :
    ∃ (v0 v1 v2 v3 v4 v5 v6 v7 v8 : Value) (y0 y1 y2 y3 y4 y5 y6 y7 y8 : DataW H × List MemPlace) (n : Nat), v = .agg #[v0, v1, v2, v3, v4, v5, v6, v7, v8] ∧
      DataW.trod enc P w base spare held n f0.type [v0] = some y0 ∧ DataW.trod enc P w base spare held n f1.type [v1] = some y1 ∧ DataW.trod enc P w base spare held n f2.type [v2] = some y2 ∧ DataW.trod enc P w base spare held n f3.type [v3] = some y3 ∧ DataW.trod enc P w base spare held n f4.type [v4] = some y4 ∧ DataW.trod enc P w base spare held n f5.type [v5] = some y5 ∧ DataW.trod enc P w base spare held n f6.type [v6] = some y6 ∧ DataW.trod enc P w base spare held n f7.type [v7] = some y7 ∧ DataW.trod enc P w base spare held n f8.type [v8] = some y8 := by
 obtain ⟨cs, rfl, hsz⟩ := okWide_struct hs hv
 obtain ⟨c0, c1, c2, c3, c4, c5, c6, c7, c8, rfl⟩ := array_nine (hsz.trans hC)
 obtain ⟨fuel, hf⟩ := h
 obtain ⟨y0, y1, y2, y3, y4, y5, y6, y7, y8, n, h0, h1, h2, h3, h4, h5, h6, h7, h8⟩ := trod_struct_nine hs hf
 obtain ⟨o0, k0⟩ := hone_of hone 0 f0 rfl
 obtain ⟨o1, k1⟩ := hone_of hone 1 f1 rfl
 obtain ⟨o2, k2⟩ := hone_of hone 2 f2 rfl
 obtain ⟨o3, k3⟩ := hone_of hone 3 f3 rfl
 obtain ⟨o4, k4⟩ := hone_of hone 4 f4 rfl
 obtain ⟨o5, k5⟩ := hone_of hone 5 f5 rfl
 obtain ⟨o6, k6⟩ := hone_of hone 6 f6 rfl
 obtain ⟨o7, k7⟩ := hone_of hone 7 f7 rfl
 obtain ⟨o8, k8⟩ := hone_of hone 8 f8 rfl
 exact ⟨c0, c1, c2, c3, c4, c5, c6, c7, c8, y0, y1, y2, y3, y4, y5, y6, y7, y8, n, rfl, by simpa [Value.cells, o0, k0] using h0, by simpa [Value.cells, o1, k1] using h1, by simpa [Value.cells, o2, k2] using h2, by simpa [Value.cells, o3, k3] using h3, by simpa [Value.cells, o4, k4] using h4, by simpa [Value.cells, o5, k5] using h5, by simpa [Value.cells, o6, k6] using h6, by simpa [Value.cells, o7, k7] using h7, by simpa [Value.cells, o8, k8] using h8⟩
theorem open_cf {H : Type} {enc : TypeId × Value → H} {w : World} {base : Nat} {spare : Nat → Bool} {held : Bool} {r : Reach} {b0 : Nat} {v : Value} {d : DataW H} {p : List MemPlace}
    (hv : Value.okWide Tryd.prog w r b0 23 v) (h : DataW.Trod enc Tryd.prog w base spare held 23 v d p) :
    ∃ c : Cfg, v = cfV c := by
 obtain ⟨v0, v1, v2, v3, v4, v5, v6, v7, v8, y0, y1, y2, y3, y4, y5, y6, y7, y8, n, rfl, t0, t1, t2, t3, t4, t5, t6, t7, t8⟩ := open_nine Tryd.underlying23 xk xk hv h
 obtain ⟨z0, e0, -, -⟩ := DataW.trod_int Tryd.underlying5 t0
 obtain ⟨z1, e1, -, -⟩ := DataW.trod_int Tryd.underlying3 t1
 obtain ⟨z2, e2, -, -⟩ := DataW.trod_int Tryd.underlying3 t2
 obtain ⟨z3, e3, -, -⟩ := DataW.trod_int Tryd.underlying3 t3
 obtain ⟨z4, e4, -, -⟩ := DataW.trod_int Tryd.underlying3 t4
 obtain ⟨z5, e5, -, -⟩ := DataW.trod_int Tryd.underlying3 t5
 obtain ⟨z6, e6, -, -⟩ := DataW.trod_int Tryd.underlying3 t6
 obtain ⟨z7, e7, -, -⟩ := DataW.trod_int Tryd.underlying3 t7
 obtain ⟨z8, e8, -, -⟩ := DataW.trod_int Tryd.underlying3 t8
 simp only [List.cons.injEq, and_true] at e0 e1 e2 e3 e4 e5 e6 e7 e8
 subst e0 e1 e2 e3 e4 e5 e6 e7 e8
 exact ⟨⟨z0, z1, z2, z3, z4, z5, z6, z7, z8⟩, rfl⟩
end
section
open Go.ChangeShapes Go.WideShapes Go.ChangeAt Go.RowKit Go.Joins Go.Deep Go.WideElems
theorem open_rowC {H : Type} {enc : TypeId × Value → H} {w : World} {fuel : Nat} {base : Nat} {spare : Nat → Bool} {held : Bool} {t e : TypeId} {k : IntKind} {cs : List Value} {x : DataW H × List MemPlace} {ao : Option Addr} {n cap : Nat}
    (ht : Tryd.prog.underlying t = some (.slice e)) (he : Tryd.prog.underlying e = some (.int k)) (hc : Tryd.prog.cellsOf e = 1) (h : DataW.trod enc Tryd.prog w base spare held fuel t cs = some x) (hcs : cs = [.slice ao n cap]) : n ≤ cap := by
 rcases open_ints ht he hc h with ⟨rfl, rfl⟩ | ⟨a, len, cap, zs, rfl, hb, hl, hm, hz, rfl, hc, hw⟩
 · cases hcs; exact Nat.le_refl _
 · cases hcs; exact hl
end
section
open Go.ChangeShapes Go.WideShapes Go.ChangeAt Go.RowKit Go.Joins Go.Deep Go.WideElems
theorem open_pr {H : Type} {enc : TypeId × Value → H} {w : World} {base : Nat} {spare : Nat → Bool} {held : Bool} {r : Reach} {b0 : Nat} {v : Value} {d : DataW H} {p : List MemPlace}
    (hv : Value.okWide Tryd.prog w r b0 31 v) (h : DataW.Trod enc Tryd.prog w base spare held 31 v d p) :
    ∃ (x y : Int), v = .agg #[.int .i64 x, .int .i64 y] := by
 obtain ⟨v0, v1, y0, y1, k, rfl, rfl, rfl, t0, t1⟩ := open_agg2 Tryd.underlying31 xk xk hv h
 obtain ⟨n, e0, -, h0⟩ := DataW.trod_int Tryd.underlying2 t0
 obtain ⟨g, e1, -, h1⟩ := DataW.trod_int Tryd.underlying2 t1
 simp only [List.cons.injEq, and_true] at e0 e1
 subst e0 e1
 exact ⟨n, g, rfl⟩
theorem open_slr {H : Type} {enc : TypeId × Value → H} {w : World} {base : Nat} {spare : Nat → Bool} {held : Bool} {r : Reach} {b0 : Nat} {v : Value} {d : DataW H} {p : List MemPlace}
    (hv : Value.okWide Tryd.prog w r b0 29 v) (h : DataW.Trod enc Tryd.prog w base spare held 29 v d p) :
    ∃ (c : SlC) (a : SlA), v = slV c a ∧ SlIn w c a ∧ (a.wa = none → a.wc = 0) ∧ (a.ka = none → a.kc = 0) ∧ (a.va = none → a.vc = 0) ∧ (a.ca = none → a.cc = 0) ∧ c.cs.length ≤ a.cc ∧ 0 ≤ c.laid ∧ c.laid < 18446744073709551616 := by
 obtain ⟨v0, v1, v2, v3, v4, v5, y0, y1, y2, y3, y4, y5, n, rfl, t0, t1, t2, t3, t4, t5⟩ := open_six Tryd.underlying29 xk xk hv h
 obtain ⟨l, e0, -, -⟩ := DataW.trod_int Tryd.underlying3 t0
 obtain ⟨wa, ws, wc, e1, w1, w2, w3, w4⟩ := open_rowK Tryd.underlying24 Tryd.underlying27 xk t1
 obtain ⟨ka, ks, kc, e2, k1, k2, k3, _⟩ := open_rowK Tryd.underlying25 Tryd.underlying2 xk t2
 obtain ⟨va, vs, vc, e3, l1, l2, l3, _⟩ := open_rowK Tryd.underlying25 Tryd.underlying2 xk t3
 obtain ⟨ca, cs, cc, e4, m1, m2, m3, _⟩ := open_rowK Tryd.underlying26 Tryd.underlying3 xk t4
 obtain ⟨o, e5, -, e6⟩ := DataW.trod_int Tryd.underlying27 t5
 have r1 := open_rowC Tryd.underlying26 Tryd.underlying3 xk t4 e4
 have r2 := u64_wf e6
 simp only [List.cons.injEq, and_true] at e0 e1 e2 e3 e4 e5
 subst e0 e1 e2 e3 e4 e5
 exact ⟨⟨l, ws, ks, vs, cs, o⟩, ⟨wa, ka, va, ca, wc, kc, vc, cc⟩, rfl, ⟨w1, k1, l1, m1, fun x hx => u64_wf (w4 x hx)⟩, w2, k2, l2, m2, r1, r2.1, r2.2⟩
end
section
open Go.RowKit
section
variable {f g : Nat → Int}
def lvs (f g : Nat → Int) : Nat → Nat → List (Int × Int)
  | 0, n => [(f n, g n)]
  | d + 1, n => lvs f g d (2 * n) ++ lvs f g d (2 * n + 1)
theorem lvs_length : ∀ d n, (lvs f g d n).length = 2 ^ d := by
 intro d
 induction d with
 | zero => intro n; rfl
 | succ d ih => intro n; rw [lvs, List.length_append, ih, ih, Nat.pow_succ]; omega
theorem lvs_get : ∀ d n i, i < 2 ^ d → (lvs f g d n)[i]? = some (f (n * 2 ^ d + i), g (n * 2 ^ d + i)) := by
 intro d
 induction d with
 | zero =>
  intro n i hi
  have : i = 0 := by simp at hi; exact hi
  subst this
  simp [lvs]
 | succ d ih =>
  intro n i hi
  rw [Nat.pow_succ] at hi
  rw [lvs]
  by_cases h : i < 2 ^ d
  · rw [List.getElem?_append_left (by rw [lvs_length]; exact h), ih _ _ h]
    rw [show n * 2 ^ (d + 1) + i = 2 * n * 2 ^ d + i by rw [Nat.pow_succ, Nat.mul_comm 2 n, Nat.mul_assoc, Nat.mul_comm 2]]
  · rw [List.getElem?_append_right (by rw [lvs_length]; omega), lvs_length, ih _ _ xo]
    rw [show n * 2 ^ (d + 1) + i = (2 * n + 1) * 2 ^ d + (i - 2 ^ d) by rw [Nat.pow_succ, Nat.add_mul, Nat.mul_comm 2 n, Nat.mul_assoc, Nat.mul_comm 2]; omega]
def Good (f g : Nat → Int) : Nat → Nat → Prop
  | 0, n => ownB (f n) (g n) = true
  | d + 1, n => ownB (f n) (g n) = true ∧ joinR (f n) (g n) (f (2 * n)) (g (2 * n)) (f (2 * n + 1)) (g (2 * n + 1)) = true ∧ Good f g d (2 * n) ∧ Good f g d (2 * n + 1)
theorem Good.own : ∀ {d n}, Good f g d n → ownB (f n) (g n) = true
  | 0, _, h => h
  | _ + 1, _, h => h.1
def cntL (l : List (Int × Int)) : Int := (l.map (·.2)).sum
theorem cntL_append (a b : List (Int × Int)) : cntL (a ++ b) = cntL a + cntL b := by simp [cntL]
theorem join_facts {m c am ac bm bc : Int} (h : joinR m c am ac bm bc = true) : c = ac + bc ∧ (0 < bc → m = bm) ∧ (¬ 0 < bc → m = am) ∧ (0 < ac → 0 < bc → am < bm) := by
 simp only [joinR, Bool.and_eq_true, Bool.or_eq_true, decide_eq_true_eq] at h
 obtain ⟨⟨⟨⟨⟨h1, h2⟩, h3⟩, h4⟩, h5, h6⟩, h7⟩ := h
 unfold abM at h5
 refine ⟨by omega, fun hb => by rw [if_pos hb] at h5; exact h5, fun hb => by rw [if_neg hb] at h5; exact h5, fun ha hb => by rcases h7 with (h7 | h7) | h7 <;> omega⟩
theorem Good.cnt : ∀ {d n}, Good f g d n → cntL (lvs f g d n) = g n := by
 intro d
 induction d with
 | zero => intro n _; simp [lvs, cntL]
 | succ d ih =>
  intro n h
  obtain ⟨h1, h2, h3, h4⟩ := h
  rw [lvs, cntL_append, ih h3, ih h4, (join_facts h2).1]
def srv (key m c : Int) : Prop := 0 < c ∧ key ≤ m
instance (key m c : Int) : Decidable (srv key m c) := by unfold srv; infer_instance
end
end
section
open Go.RowKit
theorem lvs_take {f g : Nat → Int} {D d m : Nat} (hd : d ≤ D) (h1 : 2 ^ D ≤ m * 2 ^ d) (h2 : (m + 1) * 2 ^ d ≤ 2 * 2 ^ D) :
    (lvs f g D 1).take (m * 2 ^ d - 2 ^ D + 2 ^ d) = (lvs f g D 1).take (m * 2 ^ d - 2 ^ D) ++ lvs f g d m := by
 rw [Nat.add_mul, Nat.one_mul] at h2
 obtain ⟨P, hP⟩ : ∃ P, m * 2 ^ d = P := ⟨_, rfl⟩
 rw [hP] at h1 h2 ⊢
 have p1 := Nat.two_pow_pos d
 have p2 := Nat.two_pow_pos D
 generalize hQ : 2 ^ D = Q at h1 h2 p2 ⊢
 generalize hR : 2 ^ d = R at h2 p1 ⊢
 have e : ((lvs f g D 1).take (P - Q)).length = P - Q := by
  rw [List.length_take, lvs_length, hQ]
  omega
 refine List.ext_getElem? fun k => ?_
 by_cases hk : k < P - Q
 · rw [List.getElem?_take, if_pos xo, List.getElem?_append_left (by rw [e]; exact hk), List.getElem?_take, if_pos hk]
 · rw [List.getElem?_append_right (by rw [e]; omega), e]
   by_cases hk2 : k < P - Q + R
   · rw [List.getElem?_take, if_pos hk2, lvs_get _ _ _ (by rw [hQ]; omega), lvs_get _ _ _ (by rw [hR]; omega), hP, hQ]
     rw [show 1 * Q + k = P + (k - (P - Q)) by omega]
   · rw [List.getElem?_take, if_neg hk2, List.getElem?_eq_none (by rw [lvs_length, hR]; omega)]
theorem Good.ahead {f g : Nat → Int} {D d m : Nat} (h : Good f g d m) (hd : d ≤ D) (h1 : 2 ^ D ≤ m * 2 ^ d) (h2 : (m + 1) * 2 ^ d ≤ 2 * 2 ^ D) :
    cntL ((lvs f g D 1).take (m * 2 ^ d - 2 ^ D + 2 ^ d)) = cntL ((lvs f g D 1).take (m * 2 ^ d - 2 ^ D)) + g m := by
 rw [lvs_take hd h1 h2, cntL_append, h.cnt]
end
section
open Go.RowKit
theorem plsW_append (ws : List Int) {a b d : Nat} (h1 : a ≤ b) (h2 : b ≤ d) : plsW ws a b ++ plsW ws b d = plsW ws a d := by
 unfold plsW
 rw [← List.filter_append]
 congr 1
 have := List.range'_append_1 (s := a) (m := b - a) (n := d - b)
 rw [show a + (b - a) = b by omega, show b - a + (d - b) = d - a by omega] at this
 exact this
theorem prs_append (c : SlC) {a b d : Nat} (h1 : a ≤ b) (h2 : b ≤ d) : prs c a b ++ prs c b d = prs c a d := by
 unfold prs
 rw [← List.map_append, plsW_append c.ws h1 h2]
def Ris (l : List (Int × Int)) : Prop := l.Pairwise fun p q => p.1 < q.1
theorem Ris.apart {a b : List (Int × Int)} (h : Ris (a ++ b)) : Ris a ∧ Ris b ∧ ∀ p ∈ a, ∀ q ∈ b, p.1 < q.1 := by
 have := List.pairwise_append.1 h
 exact this
theorem Ris.prs {c : SlC} {n : Nat} (h : Ris (prs c 0 n)) {a b : Nat} (h1 : a ≤ b) (h2 : b ≤ n) : Ris (Go.Proofs.YtookgoidlnlckaaDoor.prs c a b) := by
 rw [← prs_append c (Nat.zero_le b) h2] at h
 have h3 := h.apart.1
 rw [← prs_append c (Nat.zero_le a) h1] at h3
 exact h3.apart.2.1
end
section
open Go.RowKit Go.Shelf
end
section
open Go.RowKit Go.Shelf
end
end Go.Proofs.YtookgoidlnlckaaDoor
