/-
  CobAnswers: with its index a map answers what it does without: each value, rank and neighbour, and each pair by its number.
  The table math/bits.deBruijn64tab holds what the program's text lays (tied).
-/
import Derived.Test.YtbedhbpgnfffmaaGreatDoorRows
import Derived.Test.YtbedhbpgnfffmaaGreatDoorCards
import Derived.Test.YtbedhbpgnfffmaaGreatDoorTie
import Derived.Test.YtbedhbpgnfffmaaGreatDoorCobAnswersP15
import Derived.Test.YtbedhbpgnfffmaaGreatDoorCobAnswersP3
import Derived.ProofKit
import Derived.OpenShut
import Derived.ShutString
import Derived.ChangeOld
import Derived.Below
import Derived.LaidMore
import Derived.Stop.Joined
import Derived.Lib.LaidTab
import Derived.SevenTiedAt
namespace Go.Proofs.YtbedhbpgnfffmaaGreatDoor
set_option maxRecDepth 100000
set_option maxHeartbeats 40000000
open Go.ChangeShapes Go.WideShapes Go.ChangeAt Go.RowKit
open Go.ChangeMaps (open_string shut_string)
set_option linter.unusedVariables false
set_option linter.unusedSimpArgs false
def laidL:List (String×DataW Unit):=[("math/bits.deBruijn64tab",Rows.laid_math_bits_deBruijn64tab)]
theorem door_met (os:Os) (args:Array Value):laidMetH Tryz.prog laidL ((World.doorLaid Tryz.prog 14 os).forCall (fun _ _=>0) ⟨#[],args,[]⟩).memory:=
  laidMetH_of_parts3 (fuel:=8) (laidMet_of_run' 8 xk xk) xk xk
theorem QX:Tryz.prog.globalNamed "math/bits.deBruijn64tab" = some 0:=by kernel_rfl
theorem UN:(Tryz.prog.globals[0]?).map (·.type)=some 232:=by kernel_rfl
theorem I9 {W:World} (h:laidMetH Tryz.prog laidL W):TabAt W:=by
 rw [MakeChecks.laidMetH_plain _ _ _ xk] at h;obtain ⟨ps,⟨g0,t0,cs0,f0,p0,q0,hg0,ht0,hv0,hd0,_,_⟩,_,_⟩:=h;obtain rfl:=Option.some.inj (QX.symm.trans hg0);obtain rfl:=Option.some.inj (UN.symm.trans ht0);have hc:=Lib.cells_of_tab (k:= .u8) (zs:=Lib.deBruijn64tab.map Int.ofNat) Tryz.underlying232 Tryz.underlying5 xk xk hd0;intro j hj;have hl:Lib.deBruijn64tab.length=64:=by decide
 have:=World.var?_cell hg0 hv0 j;rw [this,<-Array.getElem?_toList,hc,List.getElem?_map,List.getElem?_map,List.getElem?_eq_getElem xo];simp only [Option.map_some,List.getD_eq_getElem?_getD,List.getElem?_eq_getElem (show j<Lib.deBruijn64tab.length by omega),Option.getD_some];rfl
theorem CobAnswers_own:ownKnob Tryz.prog.godebug=none:=by kernel_rfl
theorem CobAnswers_laidOut:laidOutB Tryz.prog=true:=by kernel_rfl
theorem CobAnswers_lifted (os:Os) (started:os.Started) (H:Type) (enc:TypeId×Value->H):
    ReturnsInHanded {} Tryz.checked os 4 .any (fun w args=>(Rows.cobAnswersSpec.pre enc Tryz.prog Tryz.f4 [] false w args/\laidMetH Tryz.prog laidL w)/\sizedMet enc Tryz.prog Tryz.f4 (OpenSpec.ofChange Rows.cobAnswersSpec) false w args)
      (Rows.cobAnswersSpec.post enc Tryz.prog Tryz.f4 false true false false):=by
 refine returnsInHanded_of_change_and (C:=Tryz.checked) (X:=fun w _=>laidMetH Tryz.prog laidL w) (fun _ _ _ hh h=>h.of_heap hh) CobAnswers_own started xk Tryz.func4
   (ChangeSpec.witness_shaped (enc:=enc) (C:=Tryz.checked) (os:=os) (X:=fun w _=>laidMetH Tryz.prog laidL w) false (World.doorLaid Tryz.prog 14 os) #[.agg #[.int .u8 0,.int .i64 0,.int .i64 0,.int .i64 0,.int .i64 0,.int .i64 0,.int .i64 0,.int .i64 0,.int .i64 0,.int .i64 0,.slice none 0 0,.slice none 0 0,.slice none 0 0,.slice none 0 0,.int .u64 0],.int .i64 0,.int .i64 0] 8 rfl (World.shaped_of_RefB xk xk) xk xk xk (door_met os _)) ?_
 intro W base args ds gs before hval0 hW _ _ hL _;have hval:∀(j:Nat) t v,Tryz.f4.params[j]? =some t->args[j]? =some v->Value.okWide Tryz.prog W .any base t v:=hval0;have hT:=I9 hL;have hW':=hW;obtain ⟨p,q,hA0,hV,rfl,hfz,hnd⟩:=hW;have hA:DataW.TrodAll enc Tryz.prog W 0 (fun _=>true) true Tryz.f4.params.toList args.toList ds p:=hA0;rw [Tryz.params4] at hA hval;obtain ⟨v0,vs0,d0,ds0,p0,q0,hargs,rfl,rfl,h0,r0⟩:=trodAll_cons hA;obtain ⟨v1,vs1,d1,ds1,p1,q1,rfl,rfl,rfl,h1,r1⟩:=trodAll_cons r0;obtain ⟨v2,vs2,d2,ds2,p2,q2,rfl,rfl,rfl,h2,r2⟩:=trodAll_cons r1;obtain ⟨rfl,rfl,rfl⟩:=trodAll_nil r2;obtain rfl:args= #[v0,v1,v2]:=by cases args;simp_all
 obtain ⟨rfl,rfl⟩:=trodVars_none hV;have k0:=h0;have lt0:∀x ∈ p0,x.block<W.heap.size:=by obtain ⟨m,hm⟩:=k0;exact DataW.trod_lt m _ _ _ hm
 have k1:=h1;have lt1:∀x ∈ p1,x.block<W.heap.size:=by obtain ⟨m,hm⟩:=k1;exact DataW.trod_lt m _ _ _ hm
 have k2:=h2;have lt2:∀x ∈ p2,x.block<W.heap.size:=by obtain ⟨m,hm⟩:=k2;exact DataW.trod_lt m _ _ _ hm
 obtain ⟨pc0,ps0,pa0,rfl,pi0,pw0,px0,py0,pz0,pr0,pl0⟩:=Vs (hval 0 31 v0 rfl rfl) h0;obtain ⟨a1,rfl,rfl,rfl,w1⟩:=open_int Tryz.underlying2 (hval 1 2 v1 rfl rfl) h1;obtain ⟨a2,rfl,rfl,rfl,w2⟩:=open_int Tryz.underlying3 (hval 2 3 v2 rfl rfl) h2;clear hA0 hval0;refine (CobAnswers_walk W pc0 ps0 pa0 pi0 pw0 px0 py0 pz0 pr0 pl0 a1 a2 w2 hT).mono fun e W' ⟨he,bel⟩=> ?_
 subst he;exact ⟨_,rfl,_,_,_,[],_,[],hW',trodAll_mk1 (shut_bool Tryz.underlying4 _),(trodAll_cons_mk (Below.trod CobAnswers_laidOut xk (of_decide_eq_true xk) k0 bel lt0) (trodAll_cons_mk (Below.trod CobAnswers_laidOut xk (of_decide_eq_true xk) k1 bel lt1) (trodAll_cons_mk (Below.trod CobAnswers_laidOut xk (of_decide_eq_true xk) k2 bel lt2) trodAll_mk0))),rfl,bel.frame _,fun h=>by cases h⟩
theorem cobAnswers_row:Rows.CobAnswersSaid:=
  OpenClaim.holds_of_wide 4 Tryz.f4 rfl rfl rfl rfl rfl rfl rfl ⟨rfl,rfl,rfl,rfl,rfl⟩ rfl rfl rfl rfl rfl xk Tryz.func4 xk
    (of_decide_eq_true xk) (by unfold Func.isWrapper;first|(rw [if_pos (by decide +kernel)];kernel_rfl)|(rw [if_neg (by decide +kernel)];exact ⟨rfl,rfl⟩))
    (fun os started H enc _=>CobAnswers_lifted os started H enc)
theorem cobAnswers_holds:Rows.CobAnswersCardSaid:=
  Claim7.holds_tied_plain_at .later [] [.data] true (true, "eaa8c7215a3377a838610bcad4f4d5526ca8bab975dbb2877145d593a4d0abc5") false
    cobAnswers_row (fun _ h=>by cases h) xk (fun _ h=>by cases h) cobAnswers_row_tie rfl ⟨rfl,rfl⟩ xk rfl
    (fun f fn hf hfn=>by
     obtain rfl:f=4:=Option.some.inj ((show Tryz.prog.funcNamed "shelfmark/shelfmarklaw21.CobAnswers" = some 4 by kernel_rfl).symm.trans hf) |>.symm;obtain rfl:fn=Tryz.f4:=(Option.some.inj (Tryz.func4.symm.trans hfn)).symm;exact ⟨by kernel_rfl,fun j t ht=>by
      rw [Tryz.params4] at ht;have hm:t ∈ [31,2,3]:=by simpa using Array.mem_of_getElem? ht
      have hall:([31,2,3].all fun u=> !Tryz.prog.wantsStandIn u)=true:=by kernel_rfl
      exact (show Tryz.prog.wantsStandIn t=false by simpa using List.all_eq_true.1 hall t hm)⟩)
    xk
#print axioms cobAnswers_holds
end Go.Proofs.YtbedhbpgnfffmaaGreatDoor
