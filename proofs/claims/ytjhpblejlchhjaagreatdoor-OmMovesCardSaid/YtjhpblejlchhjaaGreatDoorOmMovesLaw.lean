/-
  OmMoves: Moved tells how many labels of handles that stay were turned, and these are at most as many as were laid.
  The table math/bits.deBruijn64tab holds what the program's text lays (tied).
-/
import Derived.Test.YtjhpblejlchhjaaGreatDoorRows
import Derived.Test.YtjhpblejlchhjaaGreatDoorCards
import Derived.Test.YtjhpblejlchhjaaGreatDoorTie
import Derived.Test.YtjhpblejlchhjaaGreatDoorOmMovesP25
import Derived.Test.YtjhpblejlchhjaaGreatDoorOmMovesP18
import Derived.ProofKit
import Derived.OpenShut
import Derived.ShutString
import Derived.ChangeOld
import Derived.Below
import Derived.LaidMore
import Derived.Stop.Joined
import Derived.Lib.LaidTab
import Derived.SevenTiedAt
namespace Go.Proofs.YtjhpblejlchhjaaGreatDoor
set_option maxRecDepth 100000
set_option maxHeartbeats 40000000
open Go.ChangeShapes Go.WideShapes Go.ChangeAt Go.RowKit
open Go.ChangeMaps (open_string shut_string)
set_option linter.unusedVariables false
set_option linter.unusedSimpArgs false
def laidL:List (String×DataW Unit):=[("math/bits.deBruijn64tab",Rows.laid_math_bits_deBruijn64tab)]
theorem door_met (os:Os) (args:Array Value):laidMetH Tryz.prog laidL ((World.doorLaid Tryz.prog 14 os).forCall (fun _ _=>0) ⟨#[],args,[]⟩).memory:=
  laidMetH_of_parts3 (fuel:=8) (laidMet_of_run' 8 xk xk) xk xk
theorem tab_named:Tryz.prog.globalNamed "math/bits.deBruijn64tab" = some 0:=by kernel_rfl
theorem tab_type:(Tryz.prog.globals[0]?).map (·.type)=some 201:=by kernel_rfl
theorem tab_of_laid {W:World} (h:laidMetH Tryz.prog laidL W):TabAt W:=by
 rw [MakeChecks.laidMetH_plain _ _ _ xk] at h;obtain ⟨ps,⟨g0,t0,cs0,f0,p0,q0,hg0,ht0,hv0,hd0,_,_⟩,_,_⟩:=h;obtain rfl:=Option.some.inj (tab_named.symm.trans hg0);obtain rfl:=Option.some.inj (tab_type.symm.trans ht0);have hc:=Lib.cells_of_tab (k:= .u8) (zs:=Lib.deBruijn64tab.map Int.ofNat) Tryz.underlying201 Tryz.underlying5 xk xk hd0;intro j hj;have hl:Lib.deBruijn64tab.length=64:=by decide
 have:=World.var?_cell hg0 hv0 j;rw [this,←Array.getElem?_toList,hc,List.getElem?_map,List.getElem?_map,List.getElem?_eq_getElem xo];simp only [Option.map_some,List.getD_eq_getElem?_getD,List.getElem?_eq_getElem (show j<Lib.deBruijn64tab.length by omega),Option.getD_some];rfl
theorem OmMoves_own:ownKnob Tryz.prog.godebug=none:=by kernel_rfl
theorem OmMoves_laidOut:laidOutB Tryz.prog=true:=by kernel_rfl
theorem OmMoves_lifted (os:Os) (started:os.Started) (H:Type) (enc:TypeId×Value→H):
    ReturnsInHanded {} Tryz.checked os 6 .any (fun w args=>(Rows.omMovesSpec.pre enc Tryz.prog Tryz.f6 [] false w args∧laidMetH Tryz.prog laidL w)∧sizedMet enc Tryz.prog Tryz.f6 (OpenSpec.ofChange Rows.omMovesSpec) false w args)
      (Rows.omMovesSpec.post enc Tryz.prog Tryz.f6 false true false false):=by
 refine returnsInHanded_of_change_and (C:=Tryz.checked) (X:=fun w _=>laidMetH Tryz.prog laidL w) (fun _ _ _ hh h=>h.of_heap hh) OmMoves_own started xk Tryz.func6
   (ChangeSpec.witness_shaped (enc:=enc) (C:=Tryz.checked) (os:=os) (X:=fun w _=>laidMetH Tryz.prog laidL w) false (World.doorLaid Tryz.prog 14 os) #[.agg #[.int .u8 0,.int .i64 0,.int .i64 0,.int .i64 0,.int .i64 0,.int .i64 0,.int .i64 0,.int .i64 0,.int .i64 0,.int .i64 0,.slice none 0 0,.slice none 0 0,.slice none 0 0,.slice none 0 0,.int .u64 0,.slice none 0 0,.slice none 0 0,.int .u64 0],.agg #[.int .i64 0,.int .i64 0]] 8 rfl (World.shaped_of_RefB xk xk) xk xk xk (door_met os _)) ?_
 intro W base args ds gs before hval0 hW _ _ hL _;have hval:∀(j:Nat) t v,Tryz.f6.params[j]? =some t→args[j]? =some v→Value.okWide Tryz.prog W .any base t v:=hval0;have hT:=tab_of_laid hL;have hW':=hW;obtain ⟨p,q,hA0,hV,rfl,hfz,hnd⟩:=hW;have hA:DataW.TrodAll enc Tryz.prog W 0 (fun _=>true) true Tryz.f6.params.toList args.toList ds p:=hA0;rw [Tryz.params6] at hA hval;obtain ⟨v0,vs0,d0,ds0,p0,q0,hargs,rfl,rfl,h0,r0⟩:=trodAll_cons hA;obtain ⟨v1,vs1,d1,ds1,p1,q1,rfl,rfl,rfl,h1,r1⟩:=trodAll_cons r0;obtain ⟨rfl,rfl,rfl⟩:=trodAll_nil r1;obtain rfl:args= #[v0,v1]:=by cases args;simp_all
 obtain ⟨rfl,rfl⟩:=trodVars_none hV;have k0:=h0;have lt0:∀x ∈ p0,x.block<W.heap.size:=by obtain ⟨m,hm⟩:=k0;exact DataW.trod_lt m _ _ _ hm
 have k1:=h1;have lt1:∀x ∈ p1,x.block<W.heap.size:=by obtain ⟨m,hm⟩:=k1;exact DataW.trod_lt m _ _ _ hm
 obtain ⟨or0,oa0,rfl,oh0⟩:=open_or (hval 0 33 v0 rfl rfl) h0;obtain ⟨n1,g1,rfl,wn1,wg1⟩:=open_hand (hval 1 35 v1 rfl rfl) h1;clear hA0 hval0;refine (OmMoves_walk W or0 oa0 oh0 n1 g1 hT).mono fun e W' ⟨he,bel⟩=> ?_
 subst he;exact ⟨_,rfl,_,_,_,[],_,[],hW',trodAll_mk1 (shut_bool Tryz.underlying4 _),(trodAll_cons_mk (Below.trod OmMoves_laidOut xk (of_decide_eq_true xk) k0 bel lt0) (trodAll_cons_mk (Below.trod OmMoves_laidOut xk (of_decide_eq_true xk) k1 bel lt1) trodAll_mk0)),rfl,bel.frame _,fun h=>by cases h⟩
theorem omMoves_row:Rows.OmMovesSaid:=
  OpenClaim.holds_of_wide 6 Tryz.f6 rfl rfl rfl rfl rfl rfl rfl ⟨rfl,rfl,rfl,rfl,rfl⟩ rfl rfl rfl rfl rfl xk Tryz.func6 xk
    (of_decide_eq_true xk) (by unfold Func.isWrapper;first|(rw [if_pos (by decide +kernel)];kernel_rfl)|(rw [if_neg (by decide +kernel)];exact ⟨rfl,rfl⟩))
    (fun os started H enc _=>OmMoves_lifted os started H enc)
theorem omMoves_holds:Rows.OmMovesCardSaid:=
  Claim7.holds_tied_plain_at .later [] [.data] true (true, "d7166eba042deb9f0749470339ed455f0a3efbec25b4ab495d302393d23c238e") false
    omMoves_row (fun _ h=>by cases h) xk (fun _ h=>by cases h) omMoves_row_tie rfl ⟨rfl,rfl⟩ xk rfl
    (fun f fn hf hfn=>by
     obtain rfl:f=6:=Option.some.inj ((show Tryz.prog.funcNamed "shelfmark/shelfmarklaw15.OmMoves" = some 6 by kernel_rfl).symm.trans hf) |>.symm;obtain rfl:fn=Tryz.f6:=(Option.some.inj (Tryz.func6.symm.trans hfn)).symm;exact ⟨by kernel_rfl,fun j t ht=>by
      rw [Tryz.params6] at ht;have hm:t ∈ [33,35]:=by simpa using Array.mem_of_getElem? ht
      have hall:([33,35].all fun u=> !Tryz.prog.wantsStandIn u)=true:=by kernel_rfl
      exact (show Tryz.prog.wantsStandIn t=false by simpa using List.all_eq_true.1 hall t hm)⟩)
    xk
#print axioms omMoves_holds
end Go.Proofs.YtjhpblejlchhjaaGreatDoor
