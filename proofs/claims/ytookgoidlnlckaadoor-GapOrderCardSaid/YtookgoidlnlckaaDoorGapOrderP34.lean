/- Merged: GoWalk, Open, OpenIx, OpenSl, OpenCf, OpenSlc, OpenPr, DownPlain, DownMay, IdxLaw, Split, Find. -/
import Derived.Test.YtookgoidlnlckaaDoorGapOrderP33
import Derived.Test.YtookgoidlnlckaaDoorGapOrderP1
import Derived.ProofKit
import Derived.OpenShut
import Derived.ShutString
import Derived.ChangeOld
import Derived.Below
import Derived.Lib.SmallJoins
import Derived.Test.YtookgoidlnlckaaDoorGapOrderP13
import Derived.Test.YtookgoidlnlckaaDoorGapOrderP2
import Derived.Test.YtookgoidlnlckaaDoorGapOrderP3
import Derived.Test.YtookgoidlnlckaaDoorGapOrderP10
import Derived.Deep.SlicePairs
import Derived.Test.YtookgoidlnlckaaDoorGapOrderP23
namespace Go.Proofs.YtookgoidlnlckaaDoor
set_option maxRecDepth 100000
set_option maxHeartbeats 40000000
set_option linter.unusedVariables false
set_option linter.unusedSimpArgs false
section
open Go.RowKit
theorem gr4_ofO {n lk lv lw lc : Nat} (h : gr4 n lk lv lw lc = false) : lk ≤ n ∧ lv ≤ n ∧ lw ≤ n ∧ lc ≤ n := by
 simp only [gr4, Bool.or_eq_false_iff, decide_eq_false_iff_not] at h
 omega
theorem load_numsO (c : Cfg) (s : SlC) (L : List (Int × Int)) : (loadC c s L).ws.length ≤ 1000000 ∧ (loadC c s L).ks.length ≤ 1000000 ∧ (loadC c s L).vs.length ≤ 1000000 ∧ (loadC c s L).cs.length ≤ 1000000 ∧ U64s (loadC c s L).ws := by
 unfold loadC
 split
 · rename_i h
   obtain ⟨hc, a, H, k, hs, -, -⟩ := gap_zero h.1
   obtain ⟨e1, e2, e3, e4, e5, e6⟩ := cap_facts k h.2
   obtain ⟨p1, p2, p3, p4, p5, p6⟩ := k.pows
   rw [e1]
   exact gd_nums ((emptyL_gd p1 p2 e3 e4 s.laid).sp (Nat.zero_le _) (Nat.le_refl _) xo)
 · exact nil_nums
theorem all_part {c : Cfg} {d : SlC} (h : gapE c d = 0) : (partE d 0 d.ks.length == 0) = true ∧ prsR d 0 d.ks.length = prs d 0 d.ks.length := by
 obtain ⟨hc, a, H, kn, -, -, -⟩ := gap_zero h
 have pe : partE d 0 d.ks.length = 0 := by rw [partE, if_pos kn.may, if_pos ⟨Int.le_refl _, by omega, Int.le_refl _⟩]
 exact ⟨by rw [pe]; rfl, by rw [prsR, if_pos pe, Int.toNat_natCast]; rfl⟩
theorem prsR_len (s : SlC) : (prsR s 0 s.ks.length).length ≤ s.ks.length := by
 unfold prsR
 split
 · rw [prs_length]
   have := cntW_le s.ws (Int.toNat 0) (Int.toNat (s.ks.length : Int))
   rw [Int.toNat_natCast] at this ⊢
   omega
 · exact Nat.zero_le _
theorem GapOrder_walk (w : World) (c : Cfg) (s : SlC) (sa : SlA) (hin : SlIn w s sa) (hcs : s.cs.length ≤ sa.cc) (hl0 : 0 ≤ s.laid) (hl1 : s.laid < 18446744073709551616) (k : Int) (la : Option Addr) (pl : Nat) (L : List (Int × Int)) (hla : IsRow .i64 w la (prI L)) (hn : la = none → pl = 0) (hT : TabAt w) :
    Calls Tryd.prog 6 #[cfV c, slV s sa, .int .i64 k, .slice la L.length pl] w (AnsB w (.bool true)) := by
 have AL : Hid (∀ (W : World), Below w.heap.size w W → Calls Tryd.prog 7 #[] W (AnsB W (.bool true))) := hid fun W hb => alive9_ok W (hT.below hb)
 cases hgr : gr4 600 s.ks.length s.vs.length s.ws.length s.cs.length with
 | true => exact GO_great c s _ _ _ _ _ _ _ _ la L.length pl k hgr w AL
 | false =>
  by_cases hm : 300 < L.length
  · exact GO_many c s _ _ _ _ _ _ _ _ la L.length pl k hgr hm w AL
  · have g := gr4_ofO hgr
    have n2 := put_nums c s hin.u k (3, 4)
    have n3 := take_nums c s hin.u k
    have n4 := load_numsO c s L
    have n5 := take_nums c (putC c s k (3, 4)) n2.2.2.2.2 k
    have hwas := prsR_len s
    have hwp : ∀ {x : SlC}, gapE c x = 0 → x = s → (partE s 0 s.ks.length == 0) = true ∧ prsR s 0 s.ks.length = prs s 0 s.ks.length := fun h e => by subst e; exact all_part h
    have htz : ∀ (he : putE c s k = 0), takE c (putC c s k (3, 4)) k = 0 ∧ prs (takC c (putC c s k (3, 4)) k) 0 (takC c (putC c s k (3, 4)) k).ks.length = prs s 0 s.ks.length ∧ gapE c (takC c (putC c s k (3, 4)) k) = 0 := fun he => by
     obtain ⟨h0, k0, k1, k2⟩ := put_zero he
     obtain ⟨q1, q2⟩ := put_res hin.u (3, 4) he
     have hk : k.toNat ≤ (prs s 0 s.ks.length).length := by rw [prs_length]; unfold manyC at k1; omega
     have hml : (manyC (putC c s k (3, 4)) : Int) = (manyC s : Int) + 1 := by
      have e := congrArg List.length q2
      rw [insL_length hk, prs_length, prs_length] at e
      unfold manyC
      omega
     have ht : takE c (putC c s k (3, 4)) k = 0 := by rw [takE, if_pos q1, if_neg xo]
     obtain ⟨r1, r2⟩ := take_res n2.2.2.2.2 ht
     exact ⟨ht, by rw [r2, q2, del_ins hk], r1⟩
    exact GO_in c s _ _ _ _ _ _ _ _ la L.length pl k (prsR s 0 s.ks.length) (prs (putC c s k (3, 4)) 0 (putC c s k (3, 4)).ks.length) (prs (takC c s k) 0 (takC c s k).ks.length) (prsR (loadC c s L) 0 (loadC c s L).ks.length) _ _ (putC c s k (3, 4)) (takC c (putC c s k (3, 4)) k) (takC c s k) (loadC c s L) (putE c s k) (takE c s k) (loadE c s L) w hgr hm n2.2.2.2.2 n5.2.2.2.2 n3.2.2.2.2 n4.2.2.2.2 xo
      (fun he => by
       obtain ⟨h0, k0, k1, k2⟩ := put_zero he
       obtain ⟨p1, p2⟩ := all_part h0
       have hk : k.toNat ≤ (prs s 0 s.ks.length).length := by rw [prs_length]; unfold manyC at k1; omega
       refine ⟨p1, k.toNat, by omega, ?_, ?_⟩
       · rw [p2]; exact hk
       · rw [p2]; exact (put_res hin.u (3, 4) he).2)
      (fun he => by
       obtain ⟨h0, k0, k1⟩ := take_zero he
       obtain ⟨p1, p2⟩ := all_part h0
       have hk : k.toNat < (prs s 0 s.ks.length).length := by rw [prs_length]; unfold manyC at k1; omega
       refine ⟨p1, k.toNat, by omega, ?_, ?_⟩
       · rw [p2]; exact hk
       · rw [p2]; exact (take_res hin.u he).2)
      (fun he => by
       obtain ⟨q1, q2⟩ := load_res he
       obtain ⟨p1, p2⟩ := all_part q1
       have e : prsR (loadC c s L) 0 (loadC c s L).ks.length = L := by rw [p2, q2]
       exact ⟨p1, by rw [e]; exact hla, by rw [e], load_laid hl0 hl1 he⟩)
      AL
      (hid fun W hb => all9_ok s sa xo xo W (hin.below hb))
      (hid fun W hb => gapPut_ok c s sa xo xo hcs k 3 4 W (hin.below hb) (hT.below hb))
      (hid fun W hb => gapTake_ok c s sa xo xo hcs k W (hin.below hb) (hT.below hb))
      (hid fun W hb => gapLoad_ok c s sa xo xo hcs L la pl W (hin.below hb) (hla.below hb))
      (fun he => hid fun W a2 hi => by
       have := all9_ok (putC c s k (3, 4)) a2 xo xo W hi
       obtain ⟨p1, p2⟩ := all_part (put_res hin.u (3, 4) he).1
       rwa [p1, p2] at this)
      (fun he => hid fun W a2 hb hi hc => by
       have := gapTake_ok c (putC c s k (3, 4)) a2 xo xo hc k W hi (hT.below hb)
       rwa [(htz he).1] at this)
      (fun he => hid fun W a2 hi => by
       have := all9_ok (takC c (putC c s k (3, 4)) k) a2 xo xo W hi
       obtain ⟨p1, p2⟩ := all_part (htz he).2.2
       obtain ⟨q1, q2⟩ := all_part (put_zero he).1
       rw [p1, p2, (htz he).2.1, ← q2] at this
       exact this)
      (fun he => hid fun W a2 hi => by
       have := all9_ok (takC c s k) a2 xo xo W hi
       obtain ⟨p1, p2⟩ := all_part (take_res hin.u he).1
       rwa [p1, p2] at this)
      (hid fun W a2 hi => all9_ok (loadC c s L) a2 xo xo W hi)
end
section
open Go.ChangeShapes Go.WideShapes Go.ChangeAt Go.RowKit Go.Joins
end
section
open Go.ChangeShapes Go.WideShapes Go.ChangeAt Go.RowKit Go.Joins
theorem open_rowK {H : Type} {enc : TypeId × Value → H} {w : World} {fuel : Nat} {base : Nat} {spare : Nat → Bool} {held : Bool} {t e : TypeId} {k : IntKind} {cs : List Value} {x : DataW H × List MemPlace}
    (ht : Tryd.prog.underlying t = some (.slice e)) (he : Tryd.prog.underlying e = some (.int k)) (hc : Tryd.prog.cellsOf e = 1) (h : DataW.trod enc Tryd.prog w base spare held fuel t cs = some x) :
    ∃ (ao : Option Addr) (xs : List Int) (cap : Nat), cs = [.slice ao xs.length cap] ∧ IsRow k w ao xs ∧ (ao = none → cap = 0) ∧ xs.length ≤ maxLen ∧ (∀ n ∈ xs, (Lit.int k n).wf = true) := by
 rcases open_ints ht he hc h with ⟨rfl, rfl⟩ | ⟨a, len, cap, zs, rfl, hb, hl, hm, hz, rfl, hc, hw⟩
 · exact ⟨none, [], 0, rfl, fun i hi => by simp at hi, fun _ => rfl, by simp, by simp⟩
 · have hlen : len ≤ zs.length := by rw [hz]; split <;> omega
   refine ⟨some a, zs.take len, cap, by simp [hlen], ?_, fun h => (by cases h), by simp; omega, fun n hn => hw n (List.mem_of_mem_take hn)⟩
   intro i hi
   have hi' : i < len := by simp at hi; omega
   obtain ⟨b, off, sp⟩ := a
   have h0 := hc 0 xo
   obtain rfl : sp = none := by simpa [Addr.add] using World.cell?_spot h0
   refine ⟨b, off, rfl, ?_, fun j hj => ?_⟩
   · have := World.block_lt_of_cell? w _ h0
     simpa [Addr.add] using this
   · have hj' : j < len := by simp at hj; omega
     have := hc j xo
     rw [Addr.add_lit] at this
     rw [this]
     simp [List.getD_eq_getElem?_getD, List.getElem?_take, hj']
end
section
open Go.ChangeShapes Go.WideShapes Go.ChangeAt Go.RowKit Go.Joins Go.Deep Go.WideElems
theorem array_six {α : Type} {cs : Array α} (h : cs.size = 6) : ∃ c0 c1 c2 c3 c4 c5, cs = #[c0, c1, c2, c3, c4, c5] := by
 obtain ⟨l⟩ := cs
 match l, h with
 | [c0, c1, c2, c3, c4, c5], _ => exact ⟨c0, c1, c2, c3, c4, c5, rfl⟩
theorem trod_struct_six {P : Program} {H : Type} {enc : TypeId × Value → H} {w : World} {base : Nat} {spare : Nat → Bool} {held : Bool} {t : TypeId} {f0 f1 f2 f3 f4 f5 : Field} {fuel : Nat} {cs : List Value} {x : DataW H × List MemPlace} (ht : P.underlying t = some (.struct #[f0, f1, f2, f3, f4, f5])) (h : DataW.trod enc P w base spare held fuel t cs = some x) :
    ∃ y0 y1 y2 y3 y4 y5 n, DataW.trod enc P w base spare held n f0.type ((cs.drop f0.offset).take (P.cellsOf f0.type)) = some y0 ∧ DataW.trod enc P w base spare held n f1.type ((cs.drop f1.offset).take (P.cellsOf f1.type)) = some y1 ∧ DataW.trod enc P w base spare held n f2.type ((cs.drop f2.offset).take (P.cellsOf f2.type)) = some y2 ∧
      DataW.trod enc P w base spare held n f3.type ((cs.drop f3.offset).take (P.cellsOf f3.type)) = some y3 ∧ DataW.trod enc P w base spare held n f4.type ((cs.drop f4.offset).take (P.cellsOf f4.type)) = some y4 ∧ DataW.trod enc P w base spare held n f5.type ((cs.drop f5.offset).take (P.cellsOf f5.type)) = some y5 := by
 obtain ⟨xs, n, _, rfl, hl, hlen, hf⟩ := DataW.trod_struct ht h
 match xs, hlen with
 | [y0, y1, y2, y3, y4, y5], _ => exact ⟨y0, y1, y2, y3, y4, y5, n, by simpa using hf 0 f0 rfl, by simpa using hf 1 f1 rfl, by simpa using hf 2 f2 rfl, by simpa using hf 3 f3 rfl, by simpa using hf 4 f4 rfl, by simpa using hf 5 f5 rfl⟩
theorem open_six {P : Program} {H : Type} {enc : TypeId × Value → H} {w : World} {base : Nat} {spare : Nat → Bool} {held : Bool} {r : Reach} {b0 : Nat} {t : TypeId} {f0 f1 f2 f3 f4 f5 : Field} {v : Value} {d : DataW H} {p : List MemPlace} (hs : P.underlying t = some (.struct #[f0, f1, f2, f3, f4, f5])) (hone : oneCellFields P #[f0, f1, f2, f3, f4, f5] = true) (hC : P.cellsOf t = 6)
    (hv : Value.okWide P w r b0 t v) (h : DataW.Trod enc P w base spare held t v d p) :
    ∃ (v0 v1 v2 v3 v4 v5 : Value) (y0 y1 y2 y3 y4 y5 : DataW H × List MemPlace) (n : Nat), v = .agg #[v0, v1, v2, v3, v4, v5] ∧
      DataW.trod enc P w base spare held n f0.type [v0] = some y0 ∧ DataW.trod enc P w base spare held n f1.type [v1] = some y1 ∧ DataW.trod enc P w base spare held n f2.type [v2] = some y2 ∧ DataW.trod enc P w base spare held n f3.type [v3] = some y3 ∧ DataW.trod enc P w base spare held n f4.type [v4] = some y4 ∧ DataW.trod enc P w base spare held n f5.type [v5] = some y5 := by
 obtain ⟨cs, rfl, hsz⟩ := okWide_struct hs hv
 obtain ⟨c0, c1, c2, c3, c4, c5, rfl⟩ := array_six (hsz.trans hC)
 obtain ⟨fuel, hf⟩ := h
 obtain ⟨y0, y1, y2, y3, y4, y5, n, h0, h1, h2, h3, h4, h5⟩ := trod_struct_six hs hf
 obtain ⟨o0, k0⟩ := hone_of hone 0 f0 rfl
 obtain ⟨o1, k1⟩ := hone_of hone 1 f1 rfl
 obtain ⟨o2, k2⟩ := hone_of hone 2 f2 rfl
 obtain ⟨o3, k3⟩ := hone_of hone 3 f3 rfl
 obtain ⟨o4, k4⟩ := hone_of hone 4 f4 rfl
 obtain ⟨o5, k5⟩ := hone_of hone 5 f5 rfl
 exact ⟨c0, c1, c2, c3, c4, c5, y0, y1, y2, y3, y4, y5, n, rfl, by simpa [Value.cells, o0, k0] using h0, by simpa [Value.cells, o1, k1] using h1, by simpa [Value.cells, o2, k2] using h2, by simpa [Value.cells, o3, k3] using h3, by simpa [Value.cells, o4, k4] using h4, by simpa [Value.cells, o5, k5] using h5⟩
theorem u64_wf {n : Int} (h : (Lit.int .u64 n).wf = true) : 0 ≤ n ∧ n < 18446744073709551616 := by
 simp [Lit.wf, IntKind.min, IntKind.max, IntKind.signed, IntKind.bits] at h
 omega
end
section
open Go.ChangeShapes Go.WideShapes Go.ChangeAt Go.RowKit Go.Joins Go.Deep Go.WideElems
theorem array_nine {α : Type} {cs : Array α} (h : cs.size = 9) : ∃ c0 c1 c2 c3 c4 c5 c6 c7 c8, cs = #[c0, c1, c2, c3, c4, c5, c6, c7, c8] := by
 obtain ⟨l⟩ := cs
 match l, h with
 | [c0, c1, c2, c3, c4, c5, c6, c7, c8], _ => exact ⟨c0, c1, c2, c3, c4, c5, c6, c7, c8, rfl⟩
theorem trod_struct_nine {P : Program} {H : Type} {enc : TypeId × Value → H} {w : World} {base : Nat} {spare : Nat → Bool} {held : Bool} {t : TypeId} {f0 f1 f2 f3 f4 f5 f6 f7 f8 : Field} {fuel : Nat} {cs : List Value} {x : DataW H × List MemPlace} (ht : P.underlying t = some (.struct #[f0, f1, f2, f3, f4, f5, f6, f7, f8])) (h : DataW.trod enc P w base spare held fuel t cs = some x) :
    ∃ y0 y1 y2 y3 y4 y5 y6 y7 y8 n, DataW.trod enc P w base spare held n f0.type ((cs.drop f0.offset).take (P.cellsOf f0.type)) = some y0 ∧ DataW.trod enc P w base spare held n f1.type ((cs.drop f1.offset).take (P.cellsOf f1.type)) = some y1 ∧ DataW.trod enc P w base spare held n f2.type ((cs.drop f2.offset).take (P.cellsOf f2.type)) = some y2 ∧ DataW.trod enc P w base spare held n f3.type ((cs.drop f3.offset).take (P.cellsOf f3.type)) = some y3 ∧ DataW.trod enc P w base spare held n f4.type ((cs.drop f4.offset).take (P.cellsOf f4.type)) = some y4 ∧ DataW.trod enc P w base spare held n f5.type ((cs.drop f5.offset).take (P.cellsOf f5.type)) = some y5 ∧ DataW.trod enc P w base spare held n f6.type ((cs.drop f6.offset).take (P.cellsOf f6.type)) = some y6 ∧ DataW.trod enc P w base spare held n f7.type ((cs.drop f7.offset).take (P.cellsOf f7.type)) = some y7 ∧ DataW.trod enc P w base spare held n f8.type ((cs.drop f8.offset).take (P.cellsOf f8.type)) = some y8 := by
 obtain ⟨xs, n, _, rfl, hl, hlen, hf⟩ := DataW.trod_struct ht h
 match xs, hlen with
 | [y0, y1, y2, y3, y4, y5, y6, y7, y8], _ => exact ⟨y0, y1, y2, y3, y4, y5, y6, y7, y8, n, by simpa using hf 0 f0 rfl, by simpa using hf 1 f1 rfl, by simpa using hf 2 f2 rfl, by simpa using hf 3 f3 rfl, by simpa using hf 4 f4 rfl, by simpa using hf 5 f5 rfl, by simpa using hf 6 f6 rfl, by simpa using hf 7 f7 rfl, by simpa using hf 8 f8 rfl⟩
theorem open_nine {P : Program} {H : Type} {enc : TypeId × Value → H} {w : World} {base : Nat} {spare : Nat → Bool} {held : Bool} {r : Reach} {b0 : Nat} {t : TypeId} {f0 f1 f2 f3 f4 f5 f6 f7 f8 : Field} {v : Value} {d : DataW H} {p : List MemPlace} (hs : P.underlying t = some (.struct #[f0, f1, f2, f3, f4, f5, f6, f7, f8])) (hone : oneCellFields P #[f0, f1, f2, f3, f4, f5, f6, f7, f8] = true) (hC : P.cellsOf t = 9)
    (hv : Value.okWide P w r b0 t v) (h : DataW.Trod enc P w base spare held t v d p) :
    ∃ (v0 v1 v2 v3 v4 v5 v6 v7 v8 : Value) (y0 y1 y2 y3 y4 y5 y6 y7 y8 : DataW H × List MemPlace) (n : Nat), v = .agg #[v0, v1, v2, v3, v4, v5, v6, v7, v8] ∧
      DataW.trod enc P w base spare held n f0.type [v0] = some y0 ∧ DataW.trod enc P w base spare held n f1.type [v1] = some y1 ∧ DataW.trod enc P w base spare held n f2.type [v2] = some y2 ∧ DataW.trod enc P w base spare held n f3.type [v3] = some y3 ∧ DataW.trod enc P w base spare held n f4.type [v4] = some y4 ∧ DataW.trod enc P w base spare held n f5.type [v5] = some y5 ∧ DataW.trod enc P w base spare held n f6.type [v6] = some y6 ∧ DataW.trod enc P w base spare held n f7.type [v7] = some y7 ∧ DataW.trod enc P w base spare held n f8.type [v8] = some y8 := by
 obtain ⟨cs, rfl, hsz⟩ := okWide_struct hs hv
 obtain ⟨c0, c1, c2, c3, c4, c5, c6, c7, c8, rfl⟩ := array_nine (hsz.trans hC)
 obtain ⟨fuel, hf⟩ := h
 obtain ⟨y0, y1, y2, y3, y4, y5, y6, y7, y8, n, h0, h1, h2, h3, h4, h5, h6, h7, h8⟩ := trod_struct_nine hs hf
 obtain ⟨o0, k0⟩ := hone_of hone 0 f0 rfl
 obtain ⟨o1, k1⟩ := hone_of hone 1 f1 rfl
 obtain ⟨o2, k2⟩ := hone_of hone 2 f2 rfl
 obtain ⟨o3, k3⟩ := hone_of hone 3 f3 rfl
 obtain ⟨o4, k4⟩ := hone_of hone 4 f4 rfl
 obtain ⟨o5, k5⟩ := hone_of hone 5 f5 rfl
 obtain ⟨o6, k6⟩ := hone_of hone 6 f6 rfl
 obtain ⟨o7, k7⟩ := hone_of hone 7 f7 rfl
 obtain ⟨o8, k8⟩ := hone_of hone 8 f8 rfl
 exact ⟨c0, c1, c2, c3, c4, c5, c6, c7, c8, y0, y1, y2, y3, y4, y5, y6, y7, y8, n, rfl, by simpa [Value.cells, o0, k0] using h0, by simpa [Value.cells, o1, k1] using h1, by simpa [Value.cells, o2, k2] using h2, by simpa [Value.cells, o3, k3] using h3, by simpa [Value.cells, o4, k4] using h4, by simpa [Value.cells, o5, k5] using h5, by simpa [Value.cells, o6, k6] using h6, by simpa [Value.cells, o7, k7] using h7, by simpa [Value.cells, o8, k8] using h8⟩
theorem open_cf {H : Type} {enc : TypeId × Value → H} {w : World} {base : Nat} {spare : Nat → Bool} {held : Bool} {r : Reach} {b0 : Nat} {v : Value} {d : DataW H} {p : List MemPlace}
    (hv : Value.okWide Tryd.prog w r b0 23 v) (h : DataW.Trod enc Tryd.prog w base spare held 23 v d p) :
    ∃ c : Cfg, v = cfV c := by
 obtain ⟨v0, v1, v2, v3, v4, v5, v6, v7, v8, y0, y1, y2, y3, y4, y5, y6, y7, y8, n, rfl, t0, t1, t2, t3, t4, t5, t6, t7, t8⟩ := open_nine Tryd.underlying23 xk xk hv h
 obtain ⟨z0, e0, -, -⟩ := DataW.trod_int Tryd.underlying5 t0
 obtain ⟨z1, e1, -, -⟩ := DataW.trod_int Tryd.underlying3 t1
 obtain ⟨z2, e2, -, -⟩ := DataW.trod_int Tryd.underlying3 t2
 obtain ⟨z3, e3, -, -⟩ := DataW.trod_int Tryd.underlying3 t3
 obtain ⟨z4, e4, -, -⟩ := DataW.trod_int Tryd.underlying3 t4
 obtain ⟨z5, e5, -, -⟩ := DataW.trod_int Tryd.underlying3 t5
 obtain ⟨z6, e6, -, -⟩ := DataW.trod_int Tryd.underlying3 t6
 obtain ⟨z7, e7, -, -⟩ := DataW.trod_int Tryd.underlying3 t7
 obtain ⟨z8, e8, -, -⟩ := DataW.trod_int Tryd.underlying3 t8
 simp only [List.cons.injEq, and_true] at e0 e1 e2 e3 e4 e5 e6 e7 e8
 subst e0 e1 e2 e3 e4 e5 e6 e7 e8
 exact ⟨⟨z0, z1, z2, z3, z4, z5, z6, z7, z8⟩, rfl⟩
def numV : Value → Int
  | .int _ z => z
  | _ => 0
theorem open_prs {H : Type} {enc : TypeId × Value → H} {w : World} {base : Nat} {spare : Nat → Bool} {held : Bool} {r : Reach} {b0 : Nat} {v : Value} {d : DataW H} {p : List MemPlace}
    (hv : Value.okWide Tryd.prog w r b0 47 v) (h : DataW.Trod enc Tryd.prog w base spare held 47 v d p) :
    ∃ (la : Option Addr) (pl : Nat) (L : List (Int × Int)), v = .slice la L.length pl ∧ IsRow .i64 w la (prI L) ∧ (la = none → pl = 0) := by
 obtain ⟨a0, l0, c0, rfl⟩ := okWide_slice Tryd.underlying47 hv
 obtain ⟨n, hn⟩ := h
 rcases open_slice_pairs Tryd.underlying47 Tryd.underlying31 xk xk xk xk xk hn with ⟨he, -⟩ | ⟨a, len, cap, m, k, V0, V1, D0, D1, P0, P1, he, -, hl, -, hm, -, hc⟩
 · simp only [Value.cells, List.cons.injEq, and_true] at he
   exact ⟨none, 0, [], he, fun i hi => (by cases hi), fun _ => rfl⟩
 · simp only [Value.cells, List.cons.injEq, and_true] at he
   have hlm : len ≤ m := by rw [hm]; split <;> omega
   have hll : ((List.range len).map fun i => (numV (V0 i), numV (V1 i))).length = len := by simp
   refine ⟨some a, cap, (List.range len).map fun i => (numV (V0 i), numV (V1 i)), by rw [hll]; exact he, ?_, fun h => (by cases h)⟩
   have hcell : ∀ i, i < len → w.cell? (a.add (i * 2)) = some (.int .i64 (numV (V0 i))) ∧ w.cell? (a.add (i * 2 + 1)) = some (.int .i64 (numV (V1 i))) := by
    intro i hi
    obtain ⟨h1, h2, h3, h4⟩ := hc i xo
    obtain ⟨z0, e0, -, -⟩ := DataW.trod_int Tryd.underlying2 h3
    obtain ⟨z1, e1, -, -⟩ := DataW.trod_int Tryd.underlying2 h4
    simp only [List.cons.injEq, and_true] at e0 e1
    rw [e0] at h1
    rw [e1] at h2
    rw [e0, e1]
    exact ⟨h1, h2⟩
   have hget : ∀ i, i < len → (prI ((List.range len).map fun i => (numV (V0 i), numV (V1 i)))).getD (i * 2) 0 = numV (V0 i) ∧ (prI ((List.range len).map fun i => (numV (V0 i), numV (V1 i)))).getD (i * 2 + 1) 0 = numV (V1 i) := by
    intro i hi
    have := prI_get (l := (List.range len).map fun i => (numV (V0 i), numV (V1 i))) (i := i) (by rw [hll]; exact hi)
    rw [this.1, this.2]
    simp [List.getD_eq_getElem?_getD, hi]
   intro i hi
   rw [prI_length, hll] at hi
   obtain ⟨b, off, sp⟩ := a
   have h0 := (hcell 0 xo).1
   obtain rfl : sp = none := by simpa [Addr.add] using World.cell?_spot h0
   refine ⟨b, off, rfl, ?_, fun j hj => ?_⟩
   · have := World.block_lt_of_cell? w _ h0
     simpa [Addr.add] using this
   · rw [prI_length, hll] at hj
     have hd : j = j / 2 * 2 ∨ j = j / 2 * 2 + 1 := xo
     have h1 := hcell (j / 2) xo
     have h2 := hget (j / 2) xo
     rw [Addr.add_lit, Addr.add_lit] at h1
     rcases hd with q | q
     · rw [q, h2.1]
       exact h1.1
     · rw [q, h2.2]
       exact h1.2
end
section
open Go.ChangeShapes Go.WideShapes Go.ChangeAt Go.RowKit Go.Joins Go.Deep Go.WideElems
theorem open_rowC {H : Type} {enc : TypeId × Value → H} {w : World} {fuel : Nat} {base : Nat} {spare : Nat → Bool} {held : Bool} {t e : TypeId} {k : IntKind} {cs : List Value} {x : DataW H × List MemPlace} {ao : Option Addr} {n cap : Nat}
    (ht : Tryd.prog.underlying t = some (.slice e)) (he : Tryd.prog.underlying e = some (.int k)) (hc : Tryd.prog.cellsOf e = 1) (h : DataW.trod enc Tryd.prog w base spare held fuel t cs = some x) (hcs : cs = [.slice ao n cap]) : n ≤ cap := by
 rcases open_ints ht he hc h with ⟨rfl, rfl⟩ | ⟨a, len, cap, zs, rfl, hb, hl, hm, hz, rfl, hc, hw⟩
 · cases hcs; exact Nat.le_refl _
 · cases hcs; exact hl
end
section
open Go.ChangeShapes Go.WideShapes Go.ChangeAt Go.RowKit Go.Joins Go.Deep Go.WideElems
theorem open_slr {H : Type} {enc : TypeId × Value → H} {w : World} {base : Nat} {spare : Nat → Bool} {held : Bool} {r : Reach} {b0 : Nat} {v : Value} {d : DataW H} {p : List MemPlace}
    (hv : Value.okWide Tryd.prog w r b0 29 v) (h : DataW.Trod enc Tryd.prog w base spare held 29 v d p) :
    ∃ (c : SlC) (a : SlA), v = slV c a ∧ SlIn w c a ∧ (a.wa = none → a.wc = 0) ∧ (a.ka = none → a.kc = 0) ∧ (a.va = none → a.vc = 0) ∧ (a.ca = none → a.cc = 0) ∧ c.cs.length ≤ a.cc ∧ 0 ≤ c.laid ∧ c.laid < 18446744073709551616 := by
 obtain ⟨v0, v1, v2, v3, v4, v5, y0, y1, y2, y3, y4, y5, n, rfl, t0, t1, t2, t3, t4, t5⟩ := open_six Tryd.underlying29 xk xk hv h
 obtain ⟨l, e0, -, -⟩ := DataW.trod_int Tryd.underlying3 t0
 obtain ⟨wa, ws, wc, e1, w1, w2, w3, w4⟩ := open_rowK Tryd.underlying24 Tryd.underlying27 xk t1
 obtain ⟨ka, ks, kc, e2, k1, k2, k3, _⟩ := open_rowK Tryd.underlying25 Tryd.underlying2 xk t2
 obtain ⟨va, vs, vc, e3, l1, l2, l3, _⟩ := open_rowK Tryd.underlying25 Tryd.underlying2 xk t3
 obtain ⟨ca, cs, cc, e4, m1, m2, m3, _⟩ := open_rowK Tryd.underlying26 Tryd.underlying3 xk t4
 obtain ⟨o, e5, -, e6⟩ := DataW.trod_int Tryd.underlying27 t5
 have r1 := open_rowC Tryd.underlying26 Tryd.underlying3 xk t4 e4
 have r2 := u64_wf e6
 simp only [List.cons.injEq, and_true] at e0 e1 e2 e3 e4 e5
 subst e0 e1 e2 e3 e4 e5
 exact ⟨⟨l, ws, ks, vs, cs, o⟩, ⟨wa, ka, va, ca, wc, kc, vc, cc⟩, rfl, ⟨w1, k1, l1, m1, fun x hx => u64_wf (w4 x hx)⟩, w2, k2, l2, m2, r1, r2.1, r2.2⟩
end
section
open Go.RowKit
section
variable {f g : Nat → Int}
def lvs (f g : Nat → Int) : Nat → Nat → List (Int × Int)
  | 0, n => [(f n, g n)]
  | d + 1, n => lvs f g d (2 * n) ++ lvs f g d (2 * n + 1)
theorem lvs_length : ∀ d n, (lvs f g d n).length = 2 ^ d := by
 intro d
 induction d with
 | zero => intro n; rfl
 | succ d ih => intro n; rw [lvs, List.length_append, ih, ih, Nat.pow_succ]; omega
theorem lvs_get : ∀ d n i, i < 2 ^ d → (lvs f g d n)[i]? = some (f (n * 2 ^ d + i), g (n * 2 ^ d + i)) := by
 intro d
 induction d with
 | zero =>
  intro n i hi
  have : i = 0 := by simp at hi; exact hi
  subst this
  simp [lvs]
 | succ d ih =>
  intro n i hi
  rw [Nat.pow_succ] at hi
  rw [lvs]
  by_cases h : i < 2 ^ d
  · rw [List.getElem?_append_left (by rw [lvs_length]; exact h), ih _ _ h]
    rw [show n * 2 ^ (d + 1) + i = 2 * n * 2 ^ d + i by rw [Nat.pow_succ, Nat.mul_comm 2 n, Nat.mul_assoc, Nat.mul_comm 2]]
  · rw [List.getElem?_append_right (by rw [lvs_length]; omega), lvs_length, ih _ _ xo]
    rw [show n * 2 ^ (d + 1) + i = (2 * n + 1) * 2 ^ d + (i - 2 ^ d) by rw [Nat.pow_succ, Nat.add_mul, Nat.mul_comm 2 n, Nat.mul_assoc, Nat.mul_comm 2]; omega]
def Good (f g : Nat → Int) : Nat → Nat → Prop
  | 0, n => ownB (f n) (g n) = true
  | d + 1, n => ownB (f n) (g n) = true ∧ joinR (f n) (g n) (f (2 * n)) (g (2 * n)) (f (2 * n + 1)) (g (2 * n + 1)) = true ∧ Good f g d (2 * n) ∧ Good f g d (2 * n + 1)
theorem Good.own : ∀ {d n}, Good f g d n → ownB (f n) (g n) = true
  | 0, _, h => h
  | _ + 1, _, h => h.1
def cntL (l : List (Int × Int)) : Int := (l.map (·.2)).sum
theorem cntL_append (a b : List (Int × Int)) : cntL (a ++ b) = cntL a + cntL b := by simp [cntL]
theorem join_facts {m c am ac bm bc : Int} (h : joinR m c am ac bm bc = true) : c = ac + bc ∧ (0 < bc → m = bm) ∧ (¬ 0 < bc → m = am) ∧ (0 < ac → 0 < bc → am < bm) := by
 simp only [joinR, Bool.and_eq_true, Bool.or_eq_true, decide_eq_true_eq] at h
 obtain ⟨⟨⟨⟨⟨h1, h2⟩, h3⟩, h4⟩, h5, h6⟩, h7⟩ := h
 unfold abM at h5
 refine ⟨by omega, fun hb => by rw [if_pos hb] at h5; exact h5, fun hb => by rw [if_neg hb] at h5; exact h5, fun ha hb => by rcases h7 with (h7 | h7) | h7 <;> omega⟩
theorem Good.cnt : ∀ {d n}, Good f g d n → cntL (lvs f g d n) = g n := by
 intro d
 induction d with
 | zero => intro n _; simp [lvs, cntL]
 | succ d ih =>
  intro n h
  obtain ⟨h1, h2, h3, h4⟩ := h
  rw [lvs, cntL_append, ih h3, ih h4, (join_facts h2).1]
def srv (key m c : Int) : Prop := 0 < c ∧ key ≤ m
instance (key m c : Int) : Decidable (srv key m c) := by unfold srv; infer_instance
end
end
section
open Go.RowKit
theorem lvs_take {f g : Nat → Int} {D d m : Nat} (hd : d ≤ D) (h1 : 2 ^ D ≤ m * 2 ^ d) (h2 : (m + 1) * 2 ^ d ≤ 2 * 2 ^ D) :
    (lvs f g D 1).take (m * 2 ^ d - 2 ^ D + 2 ^ d) = (lvs f g D 1).take (m * 2 ^ d - 2 ^ D) ++ lvs f g d m := by
 rw [Nat.add_mul, Nat.one_mul] at h2
 obtain ⟨P, hP⟩ : ∃ P, m * 2 ^ d = P := ⟨_, rfl⟩
 rw [hP] at h1 h2 ⊢
 have p1 := Nat.two_pow_pos d
 have p2 := Nat.two_pow_pos D
 generalize hQ : 2 ^ D = Q at h1 h2 p2 ⊢
 generalize hR : 2 ^ d = R at h2 p1 ⊢
 have e : ((lvs f g D 1).take (P - Q)).length = P - Q := by
  rw [List.length_take, lvs_length, hQ]
  omega
 refine List.ext_getElem? fun k => ?_
 by_cases hk : k < P - Q
 · rw [List.getElem?_take, if_pos xo, List.getElem?_append_left (by rw [e]; exact hk), List.getElem?_take, if_pos hk]
 · rw [List.getElem?_append_right (by rw [e]; omega), e]
   by_cases hk2 : k < P - Q + R
   · rw [List.getElem?_take, if_pos hk2, lvs_get _ _ _ (by rw [hQ]; omega), lvs_get _ _ _ (by rw [hR]; omega), hP, hQ]
     rw [show 1 * Q + k = P + (k - (P - Q)) by omega]
   · rw [List.getElem?_take, if_neg hk2, List.getElem?_eq_none (by rw [lvs_length, hR]; omega)]
theorem Good.ahead {f g : Nat → Int} {D d m : Nat} (h : Good f g d m) (hd : d ≤ D) (h1 : 2 ^ D ≤ m * 2 ^ d) (h2 : (m + 1) * 2 ^ d ≤ 2 * 2 ^ D) :
    cntL ((lvs f g D 1).take (m * 2 ^ d - 2 ^ D + 2 ^ d)) = cntL ((lvs f g D 1).take (m * 2 ^ d - 2 ^ D)) + g m := by
 rw [lvs_take hd h1 h2, cntL_append, h.cnt]
end
section
open Go.RowKit
theorem plsW_append (ws : List Int) {a b d : Nat} (h1 : a ≤ b) (h2 : b ≤ d) : plsW ws a b ++ plsW ws b d = plsW ws a d := by
 unfold plsW
 rw [← List.filter_append]
 congr 1
 have := List.range'_append_1 (s := a) (m := b - a) (n := d - b)
 rw [show a + (b - a) = b by omega, show b - a + (d - b) = d - a by omega] at this
 exact this
theorem prs_append (c : SlC) {a b d : Nat} (h1 : a ≤ b) (h2 : b ≤ d) : prs c a b ++ prs c b d = prs c a d := by
 unfold prs
 rw [← List.map_append, plsW_append c.ws h1 h2]
def Ris (l : List (Int × Int)) : Prop := l.Pairwise fun p q => p.1 < q.1
theorem Ris.apart {a b : List (Int × Int)} (h : Ris (a ++ b)) : Ris a ∧ Ris b ∧ ∀ p ∈ a, ∀ q ∈ b, p.1 < q.1 := by
 have := List.pairwise_append.1 h
 exact this
theorem Ris.prs {c : SlC} {n : Nat} (h : Ris (prs c 0 n)) {a b : Nat} (h1 : a ≤ b) (h2 : b ≤ n) : Ris (Go.Proofs.YtookgoidlnlckaaDoor.prs c a b) := by
 rw [← prs_append c (Nat.zero_le b) h2] at h
 have h3 := h.apart.1
 rw [← prs_append c (Nat.zero_le a) h1] at h3
 exact h3.apart.2.1
end
section
open Go.RowKit Go.Shelf
end
section
open Go.RowKit Go.Shelf
end
end Go.Proofs.YtookgoidlnlckaaDoor
