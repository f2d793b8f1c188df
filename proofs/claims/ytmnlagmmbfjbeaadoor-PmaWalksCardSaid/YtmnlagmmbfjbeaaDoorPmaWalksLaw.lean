/-
  PmaWalks: as many keys as are put, one behind the other, by any step but 0, are there, with their values.
  The table math/bits.deBruijn64tab holds what the program's text lays (tied).
-/
import Derived.Test.YtmnlagmmbfjbeaaDoorRows
import Derived.Test.YtmnlagmmbfjbeaaDoorCards
import Derived.Test.YtmnlagmmbfjbeaaDoorTie
import Derived.Test.YtmnlagmmbfjbeaaDoorPmaWalksP35
import Derived.Test.YtmnlagmmbfjbeaaDoorPmaWalksP14
import Derived.ProofKit
import Derived.OpenShut
import Derived.ShutString
import Derived.ChangeOld
import Derived.Below
import Derived.LaidMore
import Derived.Stop.Joined
import Derived.Lib.LaidTab
import Derived.SevenTiedAt
namespace Go.Proofs.YtmnlagmmbfjbeaaDoor
set_option maxRecDepth 100000
set_option maxHeartbeats 40000000
open Go.ChangeShapes Go.WideShapes Go.ChangeAt Go.RowKit
open Go.ChangeMaps (open_string shut_string)
set_option linter.unusedVariables false
set_option linter.unusedSimpArgs false
def laidL:List (String×DataW Unit):=[("math/bits.deBruijn64tab",Rows.laid_math_bits_deBruijn64tab)]
theorem door_met (os:Os) (args:Array Value):laidMetH Tryd.prog laidL ((World.doorLaid Tryd.prog 14 os).forCall (fun _ _=>0) ⟨#[],args,[]⟩).memory:=
  laidMetH_of_parts3 (fuel:=8) (laidMet_of_run' 8 xk xk) xk xk
theorem tab_named:Tryd.prog.globalNamed "math/bits.deBruijn64tab" = some 0:=by kernel_rfl
theorem tab_type:(Tryd.prog.globals[0]?).map (·.type)=some 136:=by kernel_rfl
theorem tab_of_laid {W:World} (h:laidMetH Tryd.prog laidL W):TabAt W:=by
 rw [MakeChecks.laidMetH_plain _ _ _ xk] at h;obtain ⟨ps,⟨g0,t0,cs0,f0,p0,q0,hg0,ht0,hv0,hd0,_,_⟩,_,_⟩:=h;obtain rfl:=Option.some.inj (tab_named.symm.trans hg0);obtain rfl:=Option.some.inj (tab_type.symm.trans ht0);have hc:=Lib.cells_of_tab (k:= .u8) (zs:=Lib.deBruijn64tab.map Int.ofNat) Tryd.underlying136 Tryd.underlying5 xk xk hd0;intro j hj;have hl:Lib.deBruijn64tab.length=64:=by decide
 have:=World.var?_cell hg0 hv0 j;rw [this,←Array.getElem?_toList,hc,List.getElem?_map,List.getElem?_map,List.getElem?_eq_getElem xo];simp only [Option.map_some,List.getD_eq_getElem?_getD,List.getElem?_eq_getElem (show j<Lib.deBruijn64tab.length by omega),Option.getD_some];rfl
theorem PmaWalks_own:ownKnob Tryd.prog.godebug=none:=by kernel_rfl
theorem PmaWalks_laidOut:laidOutB Tryd.prog=true:=by kernel_rfl
theorem PmaWalks_lifted (os:Os) (started:os.Started) (H:Type) (enc:TypeId×Value→H):
    ReturnsInHanded {} Tryd.checked os 4 .any (fun w args=>(Rows.pmaWalksSpec.pre enc Tryd.prog Tryd.f4 [] false w args∧laidMetH Tryd.prog laidL w)∧sizedMet enc Tryd.prog Tryd.f4 (OpenSpec.ofChange Rows.pmaWalksSpec) false w args)
      (Rows.pmaWalksSpec.post enc Tryd.prog Tryd.f4 false true false false):=by
 refine returnsInHanded_of_change_and (C:=Tryd.checked) (X:=fun w _=>laidMetH Tryd.prog laidL w) (fun _ _ _ hh h=>h.of_heap hh) PmaWalks_own started xk Tryd.func4
   (ChangeSpec.witness_shaped (enc:=enc) (C:=Tryd.checked) (os:=os) (X:=fun w _=>laidMetH Tryd.prog laidL w) false (World.doorLaid Tryd.prog 14 os) #[.agg #[.int .u8 0,.int .i64 0,.int .i64 0,.int .i64 0,.int .i64 0,.int .i64 0,.int .i64 0,.int .i64 0,.int .i64 0],.int .i64 0,.int .i64 0,.int .u8 0] 8 rfl (World.shaped_of_RefB xk xk) xk xk xk (door_met os _)) ?_
 intro W base args ds gs before hval0 hW _ _ hL _;have hval:∀(j:Nat) t v,Tryd.f4.params[j]? =some t→args[j]? =some v→Value.okWide Tryd.prog W .any base t v:=hval0;have hT:=tab_of_laid hL;have hW':=hW;obtain ⟨p,q,hA0,hV,rfl,hfz,hnd⟩:=hW;have hA:DataW.TrodAll enc Tryd.prog W 0 (fun _=>true) true Tryd.f4.params.toList args.toList ds p:=hA0;rw [Tryd.params4] at hA hval;obtain ⟨v0,vs0,d0,ds0,p0,q0,hargs,rfl,rfl,h0,r0⟩:=trodAll_cons hA;obtain ⟨v1,vs1,d1,ds1,p1,q1,rfl,rfl,rfl,h1,r1⟩:=trodAll_cons r0;obtain ⟨v2,vs2,d2,ds2,p2,q2,rfl,rfl,rfl,h2,r2⟩:=trodAll_cons r1;obtain ⟨v3,vs3,d3,ds3,p3,q3,rfl,rfl,rfl,h3,r3⟩:=trodAll_cons r2;obtain ⟨rfl,rfl,rfl⟩:=trodAll_nil r3;obtain rfl:args= #[v0,v1,v2,v3]:=by cases args;simp_all
 obtain ⟨rfl,rfl⟩:=trodVars_none hV;have k0:=h0;have lt0:∀x ∈ p0,x.block<W.heap.size:=by obtain ⟨m,hm⟩:=k0;exact DataW.trod_lt m _ _ _ hm
 have k1:=h1;have lt1:∀x ∈ p1,x.block<W.heap.size:=by obtain ⟨m,hm⟩:=k1;exact DataW.trod_lt m _ _ _ hm
 have k2:=h2;have lt2:∀x ∈ p2,x.block<W.heap.size:=by obtain ⟨m,hm⟩:=k2;exact DataW.trod_lt m _ _ _ hm
 have k3:=h3;have lt3:∀x ∈ p3,x.block<W.heap.size:=by obtain ⟨m,hm⟩:=k3;exact DataW.trod_lt m _ _ _ hm
 obtain ⟨cf0,rfl⟩:=open_cf (hval 0 23 v0 rfl rfl) h0;obtain ⟨a1,rfl,rfl,rfl,w1⟩:=open_int Tryd.underlying2 (hval 1 2 v1 rfl rfl) h1;obtain ⟨a2,rfl,rfl,rfl,w2⟩:=open_int Tryd.underlying2 (hval 2 2 v2 rfl rfl) h2;obtain ⟨a3,rfl,rfl,rfl,w3⟩:=open_int Tryd.underlying5 (hval 3 5 v3 rfl rfl) h3;clear hA0 hval0;refine (PmaWalks_walk W cf0 a1 a2 a3 (u8_wf w3) hT).mono fun e W' ⟨he,bel⟩=> ?_
 subst he;exact ⟨_,rfl,_,_,_,[],_,[],hW',trodAll_mk1 (shut_bool Tryd.underlying4 _),(trodAll_cons_mk (Below.trod PmaWalks_laidOut xk (of_decide_eq_true xk) k0 bel lt0) (trodAll_cons_mk (Below.trod PmaWalks_laidOut xk (of_decide_eq_true xk) k1 bel lt1) (trodAll_cons_mk (Below.trod PmaWalks_laidOut xk (of_decide_eq_true xk) k2 bel lt2) (trodAll_cons_mk (Below.trod PmaWalks_laidOut xk (of_decide_eq_true xk) k3 bel lt3) trodAll_mk0)))),rfl,bel.frame _,fun h=>by cases h⟩
theorem pmaWalks_row:Rows.PmaWalksSaid:=
  OpenClaim.holds_of_wide 4 Tryd.f4 rfl rfl rfl rfl rfl rfl rfl ⟨rfl,rfl,rfl,rfl,rfl⟩ rfl rfl rfl rfl rfl xk Tryd.func4 xk
    (of_decide_eq_true xk) (by unfold Func.isWrapper;first|(rw [if_pos (by decide +kernel)];kernel_rfl)|(rw [if_neg (by decide +kernel)];exact ⟨rfl,rfl⟩))
    (fun os started H enc _=>PmaWalks_lifted os started H enc)
theorem pmaWalks_holds:Rows.PmaWalksCardSaid:=
  Claim7.holds_tied_plain_at .later [] [.data] true (true, "224d21df79f58a3f9a01b1318c63df0073ffca624955bea6f9efc2ac213b099d") false
    pmaWalks_row (fun _ h=>by cases h) xk (fun _ h=>by cases h) pmaWalks_row_tie rfl ⟨rfl,rfl⟩ xk rfl
    (fun f fn hf hfn=>by
     obtain rfl:f=4:=Option.some.inj ((show Tryd.prog.funcNamed "shelfmark/shelfmarklaw11.PmaWalks" = some 4 by kernel_rfl).symm.trans hf) |>.symm;obtain rfl:fn=Tryd.f4:=(Option.some.inj (Tryd.func4.symm.trans hfn)).symm;exact ⟨by kernel_rfl,fun j t ht=>by
      rw [Tryd.params4] at ht;have hm:t ∈ [23,2,2,5]:=by simpa using Array.mem_of_getElem? ht
      have hall:([23,2,2,5].all fun u=> !Tryd.prog.wantsStandIn u)=true:=by kernel_rfl
      exact (show Tryd.prog.wantsStandIn t=false by simpa using List.all_eq_true.1 hall t hm)⟩)
    xk
#print axioms pmaWalks_holds
end Go.Proofs.YtmnlagmmbfjbeaaDoor
