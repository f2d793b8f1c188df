/- Merged: GtTr, VebPlain, Flat, IdxPlain, VebPos, IdxTree, IdxTwin, IdxFns, IdxLeaf, HeapFirst, Tree18, VebRef, VebLaid, VebTab, IdxNodes, IdxRead, IdxAll, Ref10, Built18, SlFns. -/
import Derived.Test.YtookgoidlnlckaaGreatDoorGapTellsP2
import Derived.Test.YtookgoidlnlckaaGreatDoorGapTellsP11
import Derived.Test.YtookgoidlnlckaaGreatDoorGapTellsP3
import Derived.Test.YtookgoidlnlckaaGreatDoorGapTellsP9
import Derived.Test.YtookgoidlnlckaaGreatDoorGapTellsP10
import Derived.Test.YtookgoidlnlckaaGreatDoorGapTellsP4
namespace Go.Proofs.YtookgoidlnlckaaGreatDoor
set_option maxRecDepth 100000
set_option maxHeartbeats 40000000
set_option linter.unusedVariables false
set_option linter.unusedSimpArgs false
section
open Go.RowKit Go.Sort
def fndReg (n:Nat):Code→Option Code
  | .region k ops d=>if k=n then some (.region k ops d) else none
  | .seq a b=>match fndReg n a with
    | some c=>some c
    | none=>fndReg n b
  | .block _ c=>fndReg n c
  | .scope c=>fndReg n c
  | .loop c=>fndReg n c
  | .cond _ a b=>match fndReg n a with
    | some c=>some c
    | none=>fndReg n b
  | _=>none
noncomputable def tellsReg:Code:=(Tryz.f3.body.bind (fndReg 10)).getD .skip
theorem GT_reg (W:World) (ds:List Deferred) (Bm Bs Bo Bn Bq Bx By Bz Bv:Nat) (m0 m1 m2 m3 m4 m5 m6 m7 m8 s0 s1 s2 s3 s4 s5 o0 o1 o2 o3 o4 o5 n0 n1 n2 n3 n4 n5 q0 q1 q2 q3 q4 q5 x0 x1 x2 x3 x4 x5 y0 y1 y2 y3 y4 y5 z0 z1 z2 z3 z4 z5 v0 v1 v2 v3 v4 v5 r0 r1 r2 r3 r6 r7 r8 r22 r23 r24 r25 r26 r27 r28 r29 r30 r31 r32 r33 r34 r35 r36 r37 r38 r39 r40 r41 r42 r43 r44 r45 r46 r47 r48 r49 r50 r51 r52 r53 r54 r55 r56 r57 r58 r59 r60 r61 r62 r63 r64 r65 r66 r67 r68 r69 r70 r71 r72 r73 r74 r75 r76 r77 r78 r79 r80 r81 r82 r83 r84 r85 r86 r87 r88 r89 r90 r91 r92 r93 r94 r95 r96 r97 r98 r99 r100 r101 r102 r103 r104 r105 r106 r107 r108 r109 r110 r111 r112 r113:Value) (ge ce pe te:Int)
    (P_m:Hid (PB W Bm [m0,m1,m2,m3,m4,m5,m6,m7,m8]))
    (P_s:Hid (PB W Bs [s0,s1,s2,s3,s4,s5]))
    (P_o:Hid (PB W Bo [o0,o1,o2,o3,o4,o5]))
    (P_n:Hid (PB W Bn [n0,n1,n2,n3,n4,n5]))
    (P_q:Hid (PB W Bq [q0,q1,q2,q3,q4,q5]))
    (P_x:Hid (PB W Bx [x0,x1,x2,x3,x4,x5]))
    (P_y:Hid (PB W By [y0,y1,y2,y3,y4,y5]))
    (P_z:Hid (PB W Bz [z0,z1,z2,z3,z4,z5]))
    (P_v:Hid (PB W Bv [v0,v1,v2,v3,v4,v5]))
    (CO:Hid (∀W',Below W.heap.size W W'→Calls Tryz.prog 12 #[.agg #[m0,m1,m2,m3,m4,m5,m6,m7,m8],.agg #[o0,o1,o2,o3,o4,o5]] W' (AnsB W' (.int .i64 ge))))
    (CM:Hid (∀W',Below W.heap.size W W'→Calls Tryz.prog 13 #[.agg #[m0,m1,m2,m3,m4,m5,m6,m7,m8],.agg #[s0,s1,s2,s3,s4,s5]] W' (AnsB W' (.int .i64 ge))))
    (S1:Hid (∀W',Below W.heap.size W W'→Calls Tryz.prog 14 #[.agg #[n0,n1,n2,n3,n4,n5],.agg #[q0,q1,q2,q3,q4,q5]] W' (AnsB W' (.bool true))))
    (S2:Hid (∀W',Below W.heap.size W W'→Calls Tryz.prog 14 #[.agg #[x0,x1,x2,x3,x4,x5],.agg #[y0,y1,y2,y3,y4,y5]] W' (AnsB W' (.bool true))))
    (S3:Hid (∀W',Below W.heap.size W W'→Calls Tryz.prog 14 #[.agg #[z0,z1,z2,z3,z4,z5],.agg #[v0,v1,v2,v3,v4,v5]] W' (AnsB W' (.bool true)))):
    Code.wp Tryz.prog tellsReg (Exit.then (fun a' w'=>(∃dq os,w'=grow (redrawn W dq) os)∧∃u67 u68 u69 u70 u71 u72 u73 u74 u75 u76 u77 u78 u79 u80 u81 u82 u83 u84 u85 u86 u87 u88 u89 u90 u91 u92 u93 u94 u95 u96 u97 u98 u99 u100 u101 u102 u103:Value,a'= {tmps:=List.toArray (r0::r1::r2::r3:: .pointer (some ⟨Bm,0,none⟩):: .pointer (some ⟨Bs,0,none⟩)::r6::r7::r8:: .pointer (some ⟨Bo,0,none⟩):: .pointer (some ⟨Bn,0,none⟩):: .int .i64 ce:: .pointer (some ⟨Bq,0,none⟩):: .int .i64 ce:: .pointer (some ⟨Bx,0,none⟩):: .int .i64 pe:: .pointer (some ⟨By,0,none⟩):: .int .i64 pe:: .pointer (some ⟨Bz,0,none⟩):: .int .i64 te:: .pointer (some ⟨Bv,0,none⟩):: .int .i64 te:: .bool true::r23::r24::r25::r26::r27::r28::r29::r30::r31::r32::r33::r34::r35::r36::r37::r38::r39::r40::r41::r42::r43::r44::r45::r46::r47::r48::r49::r50::r51::r52::r53::r54::r55::r56::r57::r58::r59::r60::r61::r62::r63::r64::r65::r66::u67::u68::u69::u70::u71::u72::u73::u74::u75::u76::u77::u78::u79::u80::u81::u82::u83::u84::u85::u86::u87::u88::u89::u90::u91::u92::u93::u94::u95::u96::u97::u98::u99::u100::u101::u102::u103::r104::r105::r106::r107::r108::r109::r110::r111::r112::r113::[]),defers:=ds}) (fun _ _ _=>False)) {tmps:=List.toArray (r0::r1::r2::r3:: .pointer (some ⟨Bm,0,none⟩):: .pointer (some ⟨Bs,0,none⟩)::r6::r7::r8:: .pointer (some ⟨Bo,0,none⟩):: .pointer (some ⟨Bn,0,none⟩):: .int .i64 ce:: .pointer (some ⟨Bq,0,none⟩):: .int .i64 ce:: .pointer (some ⟨Bx,0,none⟩):: .int .i64 pe:: .pointer (some ⟨By,0,none⟩):: .int .i64 pe:: .pointer (some ⟨Bz,0,none⟩):: .int .i64 te:: .pointer (some ⟨Bv,0,none⟩):: .int .i64 te::r22::r23::r24::r25::r26::r27::r28::r29::r30::r31::r32::r33::r34::r35::r36::r37::r38::r39::r40::r41::r42::r43::r44::r45::r46::r47::r48::r49::r50::r51::r52::r53::r54::r55::r56::r57::r58::r59::r60::r61::r62::r63::r64::r65::r66::r67::r68::r69::r70::r71::r72::r73::r74::r75::r76::r77::r78::r79::r80::r81::r82::r83::r84::r85::r86::r87::r88::r89::r90::r91::r92::r93::r94::r95::r96::r97::r98::r99::r100::r101::r102::r103::r104::r105::r106::r107::r108::r109::r110::r111::r112::r113::[]),defers:=ds} W:=by
 have g1:(ge==ge)=true:=by simp
 have g2:(ce==ce)=true:=by simp
 have g3:(pe==pe)=true:=by simp
 have g4:(te==te)=true:=by simp
 have Lm:=hid (fun (dd:Nat) (oo:Array Obj)=>(show ∀j v,[m0,m1,m2,m3,m4,m5,m6,m7,m8][j]? =some v→(grow (redrawn W dd) oo).cell? ⟨Bm,j,none⟩=some v from fun j v hj=>cell_regrown (P_m.out j v hj) dd oo));have Ls:=hid (fun (dd:Nat) (oo:Array Obj)=>(show ∀j v,[s0,s1,s2,s3,s4,s5][j]? =some v→(grow (redrawn W dd) oo).cell? ⟨Bs,j,none⟩=some v from fun j v hj=>cell_regrown (P_s.out j v hj) dd oo));have Lo:=hid (fun (dd:Nat) (oo:Array Obj)=>(show ∀j v,[o0,o1,o2,o3,o4,o5][j]? =some v→(grow (redrawn W dd) oo).cell? ⟨Bo,j,none⟩=some v from fun j v hj=>cell_regrown (P_o.out j v hj) dd oo));have Ln:=hid (fun (dd:Nat) (oo:Array Obj)=>(show ∀j v,[n0,n1,n2,n3,n4,n5][j]? =some v→(grow (redrawn W dd) oo).cell? ⟨Bn,j,none⟩=some v from fun j v hj=>cell_regrown (P_n.out j v hj) dd oo));have Lq:=hid (fun (dd:Nat) (oo:Array Obj)=>(show ∀j v,[q0,q1,q2,q3,q4,q5][j]? =some v→(grow (redrawn W dd) oo).cell? ⟨Bq,j,none⟩=some v from fun j v hj=>cell_regrown (P_q.out j v hj) dd oo));have Lx:=hid (fun (dd:Nat) (oo:Array Obj)=>(show ∀j v,[x0,x1,x2,x3,x4,x5][j]? =some v→(grow (redrawn W dd) oo).cell? ⟨Bx,j,none⟩=some v from fun j v hj=>cell_regrown (P_x.out j v hj) dd oo));have Ly:=hid (fun (dd:Nat) (oo:Array Obj)=>(show ∀j v,[y0,y1,y2,y3,y4,y5][j]? =some v→(grow (redrawn W dd) oo).cell? ⟨By,j,none⟩=some v from fun j v hj=>cell_regrown (P_y.out j v hj) dd oo));have Lz:=hid (fun (dd:Nat) (oo:Array Obj)=>(show ∀j v,[z0,z1,z2,z3,z4,z5][j]? =some v→(grow (redrawn W dd) oo).cell? ⟨Bz,j,none⟩=some v from fun j v hj=>cell_regrown (P_z.out j v hj) dd oo));have Lv:=hid (fun (dd:Nat) (oo:Array Obj)=>(show ∀j v,[v0,v1,v2,v3,v4,v5][j]? =some v→(grow (redrawn W dd) oo).cell? ⟨Bv,j,none⟩=some v from fun j v hj=>cell_regrown (P_v.out j v hj) dd oo));have K0:=hid (fun d os=>Calls.regrown_of (w:=W) (d:=d) (os:=os) (CO.out (grow (redrawn W d) os) (below_regrown W d os)));have K1:=hid (fun d os=>Calls.regrown_of (w:=W) (d:=d) (os:=os) (CM.out (grow (redrawn W d) os) (below_regrown W d os)));have K2:=hid (fun d os=>Calls.regrown_of (w:=W) (d:=d) (os:=os) (S1.out (grow (redrawn W d) os) (below_regrown W d os)));have K3:=hid (fun d os=>Calls.regrown_of (w:=W) (d:=d) (os:=os) (S2.out (grow (redrawn W d) os) (below_regrown W d os)));have K4:=hid (fun d os=>Calls.regrown_of (w:=W) (d:=d) (os:=os) (S3.out (grow (redrawn W d) os) (below_regrown W d os)));conv=>arg 2;whnf
 refine wp_region_quiet_below xk xk ?_;iterate 6 (first|go_big_quiet_skip|(go_big_quiet_want;(first|refine quiet_load 23 (.tmp 4) Bm [m0,m1,m2,m3,m4,m5,m6,m7,m8] rfl rfl Tryz.underlying23 rfl xk (fun w9 hC=>by obtain ⟨⟨dd,oo⟩,rfl⟩:=hC;exact Lm.out dd oo) ?_|refine quiet_load 29 (.tmp 5) Bs [s0,s1,s2,s3,s4,s5] rfl rfl Tryz.underlying29 rfl xk (fun w9 hC=>by obtain ⟨⟨dd,oo⟩,rfl⟩:=hC;exact Ls.out dd oo) ?_|refine quiet_load 29 (.tmp 9) Bo [o0,o1,o2,o3,o4,o5] rfl rfl Tryz.underlying29 rfl xk (fun w9 hC=>by obtain ⟨⟨dd,oo⟩,rfl⟩:=hC;exact Lo.out dd oo) ?_|refine quiet_load 29 (.tmp 10) Bn [n0,n1,n2,n3,n4,n5] rfl rfl Tryz.underlying29 rfl xk (fun w9 hC=>by obtain ⟨⟨dd,oo⟩,rfl⟩:=hC;exact Ln.out dd oo) ?_|refine quiet_load 29 (.tmp 12) Bq [q0,q1,q2,q3,q4,q5] rfl rfl Tryz.underlying29 rfl xk (fun w9 hC=>by obtain ⟨⟨dd,oo⟩,rfl⟩:=hC;exact Lq.out dd oo) ?_|refine quiet_load 29 (.tmp 14) Bx [x0,x1,x2,x3,x4,x5] rfl rfl Tryz.underlying29 rfl xk (fun w9 hC=>by obtain ⟨⟨dd,oo⟩,rfl⟩:=hC;exact Lx.out dd oo) ?_|refine quiet_load 29 (.tmp 16) By [y0,y1,y2,y3,y4,y5] rfl rfl Tryz.underlying29 rfl xk (fun w9 hC=>by obtain ⟨⟨dd,oo⟩,rfl⟩:=hC;exact Ly.out dd oo) ?_|refine quiet_load 29 (.tmp 18) Bz [z0,z1,z2,z3,z4,z5] rfl rfl Tryz.underlying29 rfl xk (fun w9 hC=>by obtain ⟨⟨dd,oo⟩,rfl⟩:=hC;exact Lz.out dd oo) ?_|refine quiet_load 29 (.tmp 20) Bv [v0,v1,v2,v3,v4,v5] rfl rfl Tryz.underlying29 rfl xk (fun w9 hC=>by obtain ⟨⟨dd,oo⟩,rfl⟩:=hC;exact Lv.out dd oo) ?_);(conv=>arg 1;simp only [Act.put,List.setIfInBounds_toArray,List.set_cons_succ,List.set_cons_zero]);go_big_quiet_on)|go_big_quiet_step (first|with_reducible exact K0.out _ _|with_reducible exact K1.out _ _|with_reducible exact K2.out _ _|with_reducible exact K3.out _ _|with_reducible exact K4.out _ _|exact K0.out _ _|exact K1.out _ _|exact K2.out _ _|exact K3.out _ _|exact K4.out _ _))
 as_aux_lemma=>
 iterate 6 (first|go_big_quiet_skip|(go_big_quiet_want;(first|refine quiet_load 23 (.tmp 4) Bm [m0,m1,m2,m3,m4,m5,m6,m7,m8] rfl rfl Tryz.underlying23 rfl xk (fun w9 hC=>by obtain ⟨⟨dd,oo⟩,rfl⟩:=hC;exact Lm.out dd oo) ?_|refine quiet_load 29 (.tmp 5) Bs [s0,s1,s2,s3,s4,s5] rfl rfl Tryz.underlying29 rfl xk (fun w9 hC=>by obtain ⟨⟨dd,oo⟩,rfl⟩:=hC;exact Ls.out dd oo) ?_|refine quiet_load 29 (.tmp 9) Bo [o0,o1,o2,o3,o4,o5] rfl rfl Tryz.underlying29 rfl xk (fun w9 hC=>by obtain ⟨⟨dd,oo⟩,rfl⟩:=hC;exact Lo.out dd oo) ?_|refine quiet_load 29 (.tmp 10) Bn [n0,n1,n2,n3,n4,n5] rfl rfl Tryz.underlying29 rfl xk (fun w9 hC=>by obtain ⟨⟨dd,oo⟩,rfl⟩:=hC;exact Ln.out dd oo) ?_|refine quiet_load 29 (.tmp 12) Bq [q0,q1,q2,q3,q4,q5] rfl rfl Tryz.underlying29 rfl xk (fun w9 hC=>by obtain ⟨⟨dd,oo⟩,rfl⟩:=hC;exact Lq.out dd oo) ?_|refine quiet_load 29 (.tmp 14) Bx [x0,x1,x2,x3,x4,x5] rfl rfl Tryz.underlying29 rfl xk (fun w9 hC=>by obtain ⟨⟨dd,oo⟩,rfl⟩:=hC;exact Lx.out dd oo) ?_|refine quiet_load 29 (.tmp 16) By [y0,y1,y2,y3,y4,y5] rfl rfl Tryz.underlying29 rfl xk (fun w9 hC=>by obtain ⟨⟨dd,oo⟩,rfl⟩:=hC;exact Ly.out dd oo) ?_|refine quiet_load 29 (.tmp 18) Bz [z0,z1,z2,z3,z4,z5] rfl rfl Tryz.underlying29 rfl xk (fun w9 hC=>by obtain ⟨⟨dd,oo⟩,rfl⟩:=hC;exact Lz.out dd oo) ?_|refine quiet_load 29 (.tmp 20) Bv [v0,v1,v2,v3,v4,v5] rfl rfl Tryz.underlying29 rfl xk (fun w9 hC=>by obtain ⟨⟨dd,oo⟩,rfl⟩:=hC;exact Lv.out dd oo) ?_);(conv=>arg 1;simp only [Act.put,List.setIfInBounds_toArray,List.set_cons_succ,List.set_cons_zero]);go_big_quiet_on)|go_big_quiet_step (first|with_reducible exact K0.out _ _|with_reducible exact K1.out _ _|with_reducible exact K2.out _ _|with_reducible exact K3.out _ _|with_reducible exact K4.out _ _|exact K0.out _ _|exact K1.out _ _|exact K2.out _ _|exact K3.out _ _|exact K4.out _ _))
 as_aux_lemma=>
 iterate 6 (first|go_big_quiet_skip|(go_big_quiet_want;(first|refine quiet_load 23 (.tmp 4) Bm [m0,m1,m2,m3,m4,m5,m6,m7,m8] rfl rfl Tryz.underlying23 rfl xk (fun w9 hC=>by obtain ⟨⟨dd,oo⟩,rfl⟩:=hC;exact Lm.out dd oo) ?_|refine quiet_load 29 (.tmp 5) Bs [s0,s1,s2,s3,s4,s5] rfl rfl Tryz.underlying29 rfl xk (fun w9 hC=>by obtain ⟨⟨dd,oo⟩,rfl⟩:=hC;exact Ls.out dd oo) ?_|refine quiet_load 29 (.tmp 9) Bo [o0,o1,o2,o3,o4,o5] rfl rfl Tryz.underlying29 rfl xk (fun w9 hC=>by obtain ⟨⟨dd,oo⟩,rfl⟩:=hC;exact Lo.out dd oo) ?_|refine quiet_load 29 (.tmp 10) Bn [n0,n1,n2,n3,n4,n5] rfl rfl Tryz.underlying29 rfl xk (fun w9 hC=>by obtain ⟨⟨dd,oo⟩,rfl⟩:=hC;exact Ln.out dd oo) ?_|refine quiet_load 29 (.tmp 12) Bq [q0,q1,q2,q3,q4,q5] rfl rfl Tryz.underlying29 rfl xk (fun w9 hC=>by obtain ⟨⟨dd,oo⟩,rfl⟩:=hC;exact Lq.out dd oo) ?_|refine quiet_load 29 (.tmp 14) Bx [x0,x1,x2,x3,x4,x5] rfl rfl Tryz.underlying29 rfl xk (fun w9 hC=>by obtain ⟨⟨dd,oo⟩,rfl⟩:=hC;exact Lx.out dd oo) ?_|refine quiet_load 29 (.tmp 16) By [y0,y1,y2,y3,y4,y5] rfl rfl Tryz.underlying29 rfl xk (fun w9 hC=>by obtain ⟨⟨dd,oo⟩,rfl⟩:=hC;exact Ly.out dd oo) ?_|refine quiet_load 29 (.tmp 18) Bz [z0,z1,z2,z3,z4,z5] rfl rfl Tryz.underlying29 rfl xk (fun w9 hC=>by obtain ⟨⟨dd,oo⟩,rfl⟩:=hC;exact Lz.out dd oo) ?_|refine quiet_load 29 (.tmp 20) Bv [v0,v1,v2,v3,v4,v5] rfl rfl Tryz.underlying29 rfl xk (fun w9 hC=>by obtain ⟨⟨dd,oo⟩,rfl⟩:=hC;exact Lv.out dd oo) ?_);(conv=>arg 1;simp only [Act.put,List.setIfInBounds_toArray,List.set_cons_succ,List.set_cons_zero]);go_big_quiet_on)|go_big_quiet_step (first|with_reducible exact K0.out _ _|with_reducible exact K1.out _ _|with_reducible exact K2.out _ _|with_reducible exact K3.out _ _|with_reducible exact K4.out _ _|exact K0.out _ _|exact K1.out _ _|exact K2.out _ _|exact K3.out _ _|exact K4.out _ _))
 as_aux_lemma=>
 iterate 6 (first|go_big_quiet_skip|(go_big_quiet_want;(first|refine quiet_load 23 (.tmp 4) Bm [m0,m1,m2,m3,m4,m5,m6,m7,m8] rfl rfl Tryz.underlying23 rfl xk (fun w9 hC=>by obtain ⟨⟨dd,oo⟩,rfl⟩:=hC;exact Lm.out dd oo) ?_|refine quiet_load 29 (.tmp 5) Bs [s0,s1,s2,s3,s4,s5] rfl rfl Tryz.underlying29 rfl xk (fun w9 hC=>by obtain ⟨⟨dd,oo⟩,rfl⟩:=hC;exact Ls.out dd oo) ?_|refine quiet_load 29 (.tmp 9) Bo [o0,o1,o2,o3,o4,o5] rfl rfl Tryz.underlying29 rfl xk (fun w9 hC=>by obtain ⟨⟨dd,oo⟩,rfl⟩:=hC;exact Lo.out dd oo) ?_|refine quiet_load 29 (.tmp 10) Bn [n0,n1,n2,n3,n4,n5] rfl rfl Tryz.underlying29 rfl xk (fun w9 hC=>by obtain ⟨⟨dd,oo⟩,rfl⟩:=hC;exact Ln.out dd oo) ?_|refine quiet_load 29 (.tmp 12) Bq [q0,q1,q2,q3,q4,q5] rfl rfl Tryz.underlying29 rfl xk (fun w9 hC=>by obtain ⟨⟨dd,oo⟩,rfl⟩:=hC;exact Lq.out dd oo) ?_|refine quiet_load 29 (.tmp 14) Bx [x0,x1,x2,x3,x4,x5] rfl rfl Tryz.underlying29 rfl xk (fun w9 hC=>by obtain ⟨⟨dd,oo⟩,rfl⟩:=hC;exact Lx.out dd oo) ?_|refine quiet_load 29 (.tmp 16) By [y0,y1,y2,y3,y4,y5] rfl rfl Tryz.underlying29 rfl xk (fun w9 hC=>by obtain ⟨⟨dd,oo⟩,rfl⟩:=hC;exact Ly.out dd oo) ?_|refine quiet_load 29 (.tmp 18) Bz [z0,z1,z2,z3,z4,z5] rfl rfl Tryz.underlying29 rfl xk (fun w9 hC=>by obtain ⟨⟨dd,oo⟩,rfl⟩:=hC;exact Lz.out dd oo) ?_|refine quiet_load 29 (.tmp 20) Bv [v0,v1,v2,v3,v4,v5] rfl rfl Tryz.underlying29 rfl xk (fun w9 hC=>by obtain ⟨⟨dd,oo⟩,rfl⟩:=hC;exact Lv.out dd oo) ?_);(conv=>arg 1;simp only [Act.put,List.setIfInBounds_toArray,List.set_cons_succ,List.set_cons_zero]);go_big_quiet_on)|go_big_quiet_step (first|with_reducible exact K0.out _ _|with_reducible exact K1.out _ _|with_reducible exact K2.out _ _|with_reducible exact K3.out _ _|with_reducible exact K4.out _ _|exact K0.out _ _|exact K1.out _ _|exact K2.out _ _|exact K3.out _ _|exact K4.out _ _))
 as_aux_lemma=>
 iterate 6 (first|go_big_quiet_skip|(go_big_quiet_want;(first|refine quiet_load 23 (.tmp 4) Bm [m0,m1,m2,m3,m4,m5,m6,m7,m8] rfl rfl Tryz.underlying23 rfl xk (fun w9 hC=>by obtain ⟨⟨dd,oo⟩,rfl⟩:=hC;exact Lm.out dd oo) ?_|refine quiet_load 29 (.tmp 5) Bs [s0,s1,s2,s3,s4,s5] rfl rfl Tryz.underlying29 rfl xk (fun w9 hC=>by obtain ⟨⟨dd,oo⟩,rfl⟩:=hC;exact Ls.out dd oo) ?_|refine quiet_load 29 (.tmp 9) Bo [o0,o1,o2,o3,o4,o5] rfl rfl Tryz.underlying29 rfl xk (fun w9 hC=>by obtain ⟨⟨dd,oo⟩,rfl⟩:=hC;exact Lo.out dd oo) ?_|refine quiet_load 29 (.tmp 10) Bn [n0,n1,n2,n3,n4,n5] rfl rfl Tryz.underlying29 rfl xk (fun w9 hC=>by obtain ⟨⟨dd,oo⟩,rfl⟩:=hC;exact Ln.out dd oo) ?_|refine quiet_load 29 (.tmp 12) Bq [q0,q1,q2,q3,q4,q5] rfl rfl Tryz.underlying29 rfl xk (fun w9 hC=>by obtain ⟨⟨dd,oo⟩,rfl⟩:=hC;exact Lq.out dd oo) ?_|refine quiet_load 29 (.tmp 14) Bx [x0,x1,x2,x3,x4,x5] rfl rfl Tryz.underlying29 rfl xk (fun w9 hC=>by obtain ⟨⟨dd,oo⟩,rfl⟩:=hC;exact Lx.out dd oo) ?_|refine quiet_load 29 (.tmp 16) By [y0,y1,y2,y3,y4,y5] rfl rfl Tryz.underlying29 rfl xk (fun w9 hC=>by obtain ⟨⟨dd,oo⟩,rfl⟩:=hC;exact Ly.out dd oo) ?_|refine quiet_load 29 (.tmp 18) Bz [z0,z1,z2,z3,z4,z5] rfl rfl Tryz.underlying29 rfl xk (fun w9 hC=>by obtain ⟨⟨dd,oo⟩,rfl⟩:=hC;exact Lz.out dd oo) ?_|refine quiet_load 29 (.tmp 20) Bv [v0,v1,v2,v3,v4,v5] rfl rfl Tryz.underlying29 rfl xk (fun w9 hC=>by obtain ⟨⟨dd,oo⟩,rfl⟩:=hC;exact Lv.out dd oo) ?_);(conv=>arg 1;simp only [Act.put,List.setIfInBounds_toArray,List.set_cons_succ,List.set_cons_zero]);go_big_quiet_on)|go_big_quiet_step (first|with_reducible exact K0.out _ _|with_reducible exact K1.out _ _|with_reducible exact K2.out _ _|with_reducible exact K3.out _ _|with_reducible exact K4.out _ _|exact K0.out _ _|exact K1.out _ _|exact K2.out _ _|exact K3.out _ _|exact K4.out _ _))
 as_aux_lemma=>
 iterate 6 (first|go_big_quiet_skip|(go_big_quiet_want;(first|refine quiet_load 23 (.tmp 4) Bm [m0,m1,m2,m3,m4,m5,m6,m7,m8] rfl rfl Tryz.underlying23 rfl xk (fun w9 hC=>by obtain ⟨⟨dd,oo⟩,rfl⟩:=hC;exact Lm.out dd oo) ?_|refine quiet_load 29 (.tmp 5) Bs [s0,s1,s2,s3,s4,s5] rfl rfl Tryz.underlying29 rfl xk (fun w9 hC=>by obtain ⟨⟨dd,oo⟩,rfl⟩:=hC;exact Ls.out dd oo) ?_|refine quiet_load 29 (.tmp 9) Bo [o0,o1,o2,o3,o4,o5] rfl rfl Tryz.underlying29 rfl xk (fun w9 hC=>by obtain ⟨⟨dd,oo⟩,rfl⟩:=hC;exact Lo.out dd oo) ?_|refine quiet_load 29 (.tmp 10) Bn [n0,n1,n2,n3,n4,n5] rfl rfl Tryz.underlying29 rfl xk (fun w9 hC=>by obtain ⟨⟨dd,oo⟩,rfl⟩:=hC;exact Ln.out dd oo) ?_|refine quiet_load 29 (.tmp 12) Bq [q0,q1,q2,q3,q4,q5] rfl rfl Tryz.underlying29 rfl xk (fun w9 hC=>by obtain ⟨⟨dd,oo⟩,rfl⟩:=hC;exact Lq.out dd oo) ?_|refine quiet_load 29 (.tmp 14) Bx [x0,x1,x2,x3,x4,x5] rfl rfl Tryz.underlying29 rfl xk (fun w9 hC=>by obtain ⟨⟨dd,oo⟩,rfl⟩:=hC;exact Lx.out dd oo) ?_|refine quiet_load 29 (.tmp 16) By [y0,y1,y2,y3,y4,y5] rfl rfl Tryz.underlying29 rfl xk (fun w9 hC=>by obtain ⟨⟨dd,oo⟩,rfl⟩:=hC;exact Ly.out dd oo) ?_|refine quiet_load 29 (.tmp 18) Bz [z0,z1,z2,z3,z4,z5] rfl rfl Tryz.underlying29 rfl xk (fun w9 hC=>by obtain ⟨⟨dd,oo⟩,rfl⟩:=hC;exact Lz.out dd oo) ?_|refine quiet_load 29 (.tmp 20) Bv [v0,v1,v2,v3,v4,v5] rfl rfl Tryz.underlying29 rfl xk (fun w9 hC=>by obtain ⟨⟨dd,oo⟩,rfl⟩:=hC;exact Lv.out dd oo) ?_);(conv=>arg 1;simp only [Act.put,List.setIfInBounds_toArray,List.set_cons_succ,List.set_cons_zero]);go_big_quiet_on)|go_big_quiet_step (first|with_reducible exact K0.out _ _|with_reducible exact K1.out _ _|with_reducible exact K2.out _ _|with_reducible exact K3.out _ _|with_reducible exact K4.out _ _|exact K0.out _ _|exact K1.out _ _|exact K2.out _ _|exact K3.out _ _|exact K4.out _ _))
 as_aux_lemma=>
 iterate 2 (first|go_big_quiet_skip|(go_big_quiet_want;(first|refine quiet_load 23 (.tmp 4) Bm [m0,m1,m2,m3,m4,m5,m6,m7,m8] rfl rfl Tryz.underlying23 rfl xk (fun w9 hC=>by obtain ⟨⟨dd,oo⟩,rfl⟩:=hC;exact Lm.out dd oo) ?_|refine quiet_load 29 (.tmp 5) Bs [s0,s1,s2,s3,s4,s5] rfl rfl Tryz.underlying29 rfl xk (fun w9 hC=>by obtain ⟨⟨dd,oo⟩,rfl⟩:=hC;exact Ls.out dd oo) ?_|refine quiet_load 29 (.tmp 9) Bo [o0,o1,o2,o3,o4,o5] rfl rfl Tryz.underlying29 rfl xk (fun w9 hC=>by obtain ⟨⟨dd,oo⟩,rfl⟩:=hC;exact Lo.out dd oo) ?_|refine quiet_load 29 (.tmp 10) Bn [n0,n1,n2,n3,n4,n5] rfl rfl Tryz.underlying29 rfl xk (fun w9 hC=>by obtain ⟨⟨dd,oo⟩,rfl⟩:=hC;exact Ln.out dd oo) ?_|refine quiet_load 29 (.tmp 12) Bq [q0,q1,q2,q3,q4,q5] rfl rfl Tryz.underlying29 rfl xk (fun w9 hC=>by obtain ⟨⟨dd,oo⟩,rfl⟩:=hC;exact Lq.out dd oo) ?_|refine quiet_load 29 (.tmp 14) Bx [x0,x1,x2,x3,x4,x5] rfl rfl Tryz.underlying29 rfl xk (fun w9 hC=>by obtain ⟨⟨dd,oo⟩,rfl⟩:=hC;exact Lx.out dd oo) ?_|refine quiet_load 29 (.tmp 16) By [y0,y1,y2,y3,y4,y5] rfl rfl Tryz.underlying29 rfl xk (fun w9 hC=>by obtain ⟨⟨dd,oo⟩,rfl⟩:=hC;exact Ly.out dd oo) ?_|refine quiet_load 29 (.tmp 18) Bz [z0,z1,z2,z3,z4,z5] rfl rfl Tryz.underlying29 rfl xk (fun w9 hC=>by obtain ⟨⟨dd,oo⟩,rfl⟩:=hC;exact Lz.out dd oo) ?_|refine quiet_load 29 (.tmp 20) Bv [v0,v1,v2,v3,v4,v5] rfl rfl Tryz.underlying29 rfl xk (fun w9 hC=>by obtain ⟨⟨dd,oo⟩,rfl⟩:=hC;exact Lv.out dd oo) ?_);(conv=>arg 1;simp only [Act.put,List.setIfInBounds_toArray,List.set_cons_succ,List.set_cons_zero]);go_big_quiet_on)|go_big_quiet_step (first|with_reducible exact K0.out _ _|with_reducible exact K1.out _ _|with_reducible exact K2.out _ _|with_reducible exact K3.out _ _|with_reducible exact K4.out _ _|exact K0.out _ _|exact K1.out _ _|exact K2.out _ _|exact K3.out _ _|exact K4.out _ _))
 refine wpQuiet_nil ?_;intro w' hw';obtain ⟨⟨dq,osq⟩,hw''⟩:=hw';exact ⟨⟨dq,osq,hw''⟩,_,_,_,_,_,_,_,_,_,_,_,_,_,_,_,_,_,_,_,_,_,_,_,_,_,_,_,_,_,_,_,_,_,_,_,_,_,rfl⟩
end
section
def lay (L r:Nat):List Nat:=
  if h:L≤1 then [r] else lay (L/2) r++(List.range (2^(L/2))).flatMap fun i=>lay (L-L/2) (r*2^(L/2)+i)
termination_by L
decreasing_by all_goals omega
end
section
open Go.RowKit
variable {a b c a' b' c':Nat→Int} {M i:Nat} {v:Int}
theorem set_getD {xs:List Int} {j k:Nat} {v:Int} (hk:k<xs.length):(xs.set j v).getD k 0=if j=k then v else xs.getD k 0:=by
 simp only [List.getD_eq_getElem?_getD,List.getElem?_set];by_cases e:j=k
 · subst e;simp [hk]
 · simp [e]
theorem own_cell {k:IntKind} {w:World} {B g n cap s:Nat} {e:TypeId} {xs:List Int} (h:w.ownsRow B e s (.slice (some ⟨g,0,none⟩) n cap) n (xs.map (Value.int k))) {j:Nat} (hj:j<xs.length):
    w.cell? ⟨g,j,none⟩=some (.int k (xs.getD j 0))∧w.frozen? ⟨g,j,none⟩=false:=by
 have hl:xs.length=n*s:=by have:=h.1;simpa using this
 refine ⟨?_,h.frozenAt j⟩;rw [h.cellAt j xo,List.getElem?_map,List.getElem?_eq_getElem hj];simp [List.getD_eq_getElem?_getD,hj]
theorem own_set {k:IntKind} {w:World} {B g n cap s:Nat} {e:TypeId} {xs:List Int} (h:w.ownsRow B e s (.slice (some ⟨g,0,none⟩) n cap) n (xs.map (Value.int k))) (j:Nat) (y:Int):
    (w.setCell ⟨g,j,none⟩ (.int k y)).ownsRow B e s (.slice (some ⟨g,0,none⟩) n cap) n ((xs.set j y).map (Value.int k)):=by
 have:=(h.stored j (.int k y)).1;rw [List.map_set];exact this
end
section
open Go.RowKit
def ownB (m c:Int):Bool:=decide (0≤c)&&decide (c≤65536)&&(decide (c≠0)||decide (m=0))
def abM (am bm bc:Int):Int:=if 0<bc then bm else am
def abC (ac bc:Int):Int:=if 0<bc then ac+bc else ac
def joinR (m c am ac bm bc:Int):Bool:=decide (0≤ac)&&decide (0≤bc)&&decide (ac≤c)&&decide (bc=c-ac)&&(decide (m=abM am bm bc)&&decide (c=abC ac bc))&&(decide (ac=0)||decide (bc=0)||decide (am<bm))
def ixFit (l:Int) (ms cs:List Int):Prop:=1≤l∧l≤14∧ms.length=2^l.toNat-1∧cs.length=2^l.toNat-1
instance (l:Int) (ms cs:List Int):Decidable (ixFit l ms cs):=by unfold ixFit;infer_instance
end
section
end
section
open Go.RowKit
end
section
open Go.RowKit
end
section
open Go.RowKit
end
section
open Go.RowKit
end
section
open Go.RowKit
end
section
open Go.RowKit Go.Shelf
attribute [local go_sem] Oper.semAt_some
end
section
open Go.RowKit
end
section
open Go.RowKit
end
section
open Go.RowKit
end
section
open Go.RowKit
end
section
open Go.RowKit
end
section
open Go.RowKit
end
section
open Go.RowKit
end
section
open Go.RowKit Go.Shelf
attribute [local go_sem] Oper.semAt_some
def Fact.full {T:TypeId} (base:Nat) (e:TypeId) (he:e≠T) (n:Nat) (xs:List Value):Fact T:=
  ⟨fun v w=>∃g,v= .slice (some ⟨g,0,none⟩) n n∧w.ownsRow base e 1 (.slice (some ⟨g,0,none⟩) n n) n xs,fun _ _ _ h ⟨g,e1,k⟩=>⟨g,e1,h.owns he k⟩⟩
theorem wp_make {P:Program} {w:World} {o:Oper} {a:Act} {K:Act→World→Prop} {Q:Exit→Act→World→Prop} (l c:Operand) (t e:TypeId) (z:Value) (size bytes:Nat)
    (ht:P.underlying t=some (.slice e)) (hinfo:(P.info? e).map (fun i=>(i.zero,i.size,i.bytes))=some (some z,size,bytes)) (hbytes:bytes≤1024)
    (B n:Nat) (N:Int) (hN:N=n) (hlen:n≤4294967296) (hbase:B≤w.heap.size)
    (ho:o.op=Op.makeSlice t l c) (hl:a.eval l= .int .i64 N) (hc:a.eval c= .int .i64 N)
    (h:∀g w',w.heap.size≤g→w'.ownsRow B e size (.slice (some ⟨g,0,none⟩) n n) n (madeCells z.cells (n*size)).toList→Below w.heap.size w w'→K (a.put o.dst (.slice (some ⟨g,0,none⟩) n n)) w'):
    Oper.wp P o a w K Q:=by
 obtain ⟨i0,hi,hz0,hz1,hz2⟩:=info_parts hinfo;obtain ⟨w',hrun,r1,r2⟩:=run_make_full (P:=P) w B t e i0 z size ht hi hz0 hz1 .i64 .i64 n (by rw [hz2];exact Nat.le_trans (Nat.mul_le_mul hbytes hlen) (by decide)) (by unfold maxLen;omega) hbase;subst hN;unfold Oper.wp;simp [execOp,ho,hl,hc,hrun,Result.andThen];exact h w.heap.size w' (Nat.le_refl _) r1 ((Below.refl _ _).grown r2 (Nat.le_refl _) (fun k hk=>by cases hk))
end
section
open Go.RowKit
theorem SameWords_ok (a b:Option Addr) (ca cb:Nat) (xs ys:List Int) (w:World) (ha:IsRow .u64 w a xs) (hb:IsRow .u64 w b ys) (hm:xs.length≤1000000000):
    Calls Tryz.prog 42 #[.slice a xs.length ca,.slice b ys.length cb] w fun e w'=>e= .returned (.bool (decide (xs=ys)))∧∃n,w'=w.drewN n:=by
 by_cases hlen:xs.length=ys.length
 · have hl1:((xs.length:Int) != (ys.length:Int))=false:=by simp [hlen]
   have HL:=hid hlen;clear hlen;have HA:=hid ha;have HB:=hid hb;clear ha hb;go_enter Tryz.func42,Tryz.ntmps42
   go_wp2
   go_loopg [5] xs.length (fun g i wr=>∃(k n:Nat),k+g=xs.length∧i= .int .i64 k∧wr=w.drewN n∧xs.take k=ys.take k)
   case atStart=>exact ⟨0,0,by omega,rfl,rfl,by simp⟩
   case round=>
    obtain ⟨k,n,hk,rfl,rfl,ht⟩:=hrel;have HT:=hid ht;clear ht;by_cases hlt:k<xs.length
    · have hlt2 : k<ys.length:=by rw [←HL.out];exact hlt
      obtain ⟨b1,o1,x,rfl,hx,h1,_⟩:=HA.out.get hlt;obtain ⟨b2,o2,y,rfl,hy,h2,_⟩:=HB.out.get hlt2;by_cases heq:x=y
      · have he:(x != y)=false:=by simpa using heq
        have HE:=hid heq;clear heq;go_wp2
        go_quiet (fail)
        go_wp2
        go_roundg (gk-1)
        case measure=>omega
        case rel=>exact ⟨k+1,n+nq,by omega,by go_num,by simp,row_take_succ HL.out hlt HT.out (hx.out.trans (HE.out.trans hy.out.symm))⟩
      · have he : (x != y)=true:=by simpa using heq
        have HE:=hid heq;clear heq;go_wp2
        go_quiet (fail)
        go_wp2
        go_ret
        exact ⟨by have:xs≠ys:=fun h=>HE.out (by rw [←hx.out,←hy.out,h])
                  simp [this],_,World.drewN_drewN _ _ _⟩
    · go_wp2
      go_ret
      have hk2:k=xs.length:=xo;have hxy:xs=ys:=by
       have:=HT.out;rw [hk2,List.take_length,HL.out,List.take_length] at this;exact this
      exact ⟨by simp [hxy],_,rfl⟩
 · have hl1:((xs.length:Int) != (ys.length:Int))=true:=by simp;omega
   have hxy:xs≠ys:=fun h=>hlen (by rw [h])
   have HX:=hid hxy;clear ha hb hlen hxy;go_enter Tryz.func42,Tryz.ntmps42
   go_wp2
   go_ret
   exact ⟨by simp [HX.out],0,rfl⟩
theorem ans_drewN {P:Program} {f:Nat} {args:Array Value} {w:World} {v:Value} (h:Calls P f args w fun e w'=>e= .returned v∧∃n,w'=w.drewN n):Calls P f args w (AnsB w v):=
  h.mono fun e w' ⟨h1,n,h2⟩=>⟨h1,by rw [h2];exact below_drewN (Below.refl _ _) _⟩
def gr4 (n lk lv lw lc:Nat):Bool:=decide (n<lk)||decide (n<lv)||decide (n<lw)||decide (n<lc)
theorem Great04_ok (seg:Int) (wa ka va ca:Option Addr) (wc kc vc cc lw lk lv lc:Nat) (laid:Int) (n:Nat) (w:World):
    Calls Tryz.prog 4 #[.agg #[.int .i64 seg,.slice wa lw wc,.slice ka lk kc,.slice va lv vc,.slice ca lc cc,.int .u64 laid],.int .i64 n] w (AnsB w (.bool (gr4 n lk lv lw lc))):=by
 go_enter Tryz.func4,Tryz.ntmps4
 go_wp2
 all_goals go_ret
 all_goals exact ⟨by first|rfl|(simp [gr4, *];done)|(simp [gr4];omega),(Below.refl _ _).alloc (Nat.le_refl _) _⟩
theorem Same04_eq (c:SlC) (a a':SlA) (w:World) (hin:SlIn w c a) (hin':SlIn w c a') (hl1:c.ws.length≤1000000000) (hl2:c.ks.length≤1000000000) (hl3:c.vs.length≤1000000000) (hl4:c.cs.length≤1000000000):
    Calls Tryz.prog 14 #[slV c a,slV c a'] w (AnsB w (.bool true)):=by
 have HW:=hid (fun (W:World) (hb:Below w.heap.size w W)=>ans_drewN (SameWords_ok a.wa a'.wa a.wc a'.wc c.ws c.ws W (hin.w.below hb) (hin'.w.below hb) hl1));have HK:=hid (fun (W:World) (hb:Below w.heap.size w W)=>ans_drewN (SameKeys_ok a.ka a'.ka a.kc a'.kc c.ks c.ks W (hin.k.below hb) (hin'.k.below hb) hl2));have HV:=hid (fun (W:World) (hb:Below w.heap.size w W)=>ans_drewN (SameKeys_ok a.va a'.va a.vc a'.vc c.vs c.vs W (hin.v.below hb) (hin'.v.below hb) hl3));have HN:=hid (fun (W:World) (hb:Below w.heap.size w W)=>ans_drewN (SameNums_ok a.ca a'.ca a.cc a'.cc c.cs c.cs W (hin.n.below hb) (hin'.n.below hb) hl4));rw [show decide (c.ws=c.ws)=true by simp] at HW;rw [show decide (c.ks=c.ks)=true by simp] at HK;rw [show decide (c.vs=c.vs)=true by simp] at HV;rw [show decide (c.cs=c.cs)=true by simp] at HN;obtain ⟨seg,ws,ks,vs,cs,laid⟩:=c;obtain ⟨wa,ka,va,ca,wc,kc,vc,cc⟩:=a;obtain ⟨wa',ka',va',ca',wc',kc',vc',cc'⟩:=a';dsimp only [slV] at *;generalize ws.length=lw at *;generalize ks.length=lk at *;generalize vs.length=lv at *;generalize cs.length=lc at *;have gs:(seg==seg)=true:=by simp
 have gl:(laid==laid)=true:=by simp
 clear hin hin' hl1 hl2 hl3 hl4;go_enter Tryz.func14,Tryz.ntmps14
 go_wp2_with fail
 refine (HW.out _ (((Below.refl _ _).alloc (Nat.le_refl _) _).alloc (by simp) _)).mono ?_;rintro e w1 ⟨rfl,hb1⟩;have hz_w1:=hb1.size;try simp only [World.size_alloc,World.size_setCell] at hz_w1
 have hh:=bc6 hb1 (au6 (al6 (b:=w.heap.size) (by simp)));obtain ⟨c_t0,c_t1,c_t2,c_t3,c_t4,c_t5⟩:=hh;have z_t:=blt hb1 (auz (alz (b:=w.heap.size) (by simp)));have hh:=bc6 hb1 (al6 (b:=w.heap.size+1) (by simp));obtain ⟨c_o0,c_o1,c_o2,c_o3,c_o4,c_o5⟩:=hh;have z_o:=blt hb1 (alz (b:=w.heap.size+1) (by simp));have hB1:Below w.heap.size w w1:=xbel;go_wp2_with fail
 refine (HK.out _ hB1).mono ?_;rintro e w2 ⟨rfl,hb2⟩;have hz_w2:=hb2.size;simp (disch:=omega) only [xcl hb2] at c_t0 c_t1 c_t2 c_t3 c_t4 c_t5 c_o0 c_o1 c_o2 c_o3 c_o4 c_o5;replace z_t:=blt hb2 z_t;replace z_o:=blt hb2 z_o;have hB2:Below w.heap.size w w2:=xbel;go_wp2_with fail
 refine (HV.out _ hB2).mono ?_;rintro e w3 ⟨rfl,hb3⟩;have hz_w3:=hb3.size;simp (disch:=omega) only [xcl hb3] at c_t0 c_t1 c_t2 c_t3 c_t4 c_t5 c_o0 c_o1 c_o2 c_o3 c_o4 c_o5;replace z_t:=blt hb3 z_t;replace z_o:=blt hb3 z_o;have hB3:Below w.heap.size w w3:=xbel;go_wp2_with fail
 refine (HN.out _ hB3).mono ?_;rintro e w4 ⟨rfl,hb4⟩;have hz_w4:=hb4.size;simp (disch:=omega) only [xcl hb4] at c_t0 c_t1 c_t2 c_t3 c_t4 c_t5 c_o0 c_o1 c_o2 c_o3 c_o4 c_o5;replace z_t:=blt hb4 z_t;replace z_o:=blt hb4 z_o;have hB4:Below w.heap.size w w4:=xbel;go_wp2
 go_ret
 exact ⟨rfl,hB4⟩
end
end Go.Proofs.YtookgoidlnlckaaGreatDoor
