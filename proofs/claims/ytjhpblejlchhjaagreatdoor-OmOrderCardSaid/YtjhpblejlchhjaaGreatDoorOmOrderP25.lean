/- Merged: OmCame, OmOrWalk, Open, OpenIx, OpenSl, OpenCf, OpenSlc, OpenTab, OpenOr. -/
import Derived.Test.YtjhpblejlchhjaaGreatDoorOmOrderP23
import Derived.Test.YtjhpblejlchhjaaGreatDoorOmOrderP11
import Derived.Test.YtjhpblejlchhjaaGreatDoorOmOrderP14
import Derived.Test.YtjhpblejlchhjaaGreatDoorOmOrderP6
import Derived.Lib.QuietBelow
import Derived.Test.YtjhpblejlchhjaaGreatDoorOmOrderP24
import Derived.Test.YtjhpblejlchhjaaGreatDoorOmOrderP19
import Derived.Test.YtjhpblejlchhjaaGreatDoorOmOrderP1
import Derived.ProofKit
import Derived.OpenShut
import Derived.ShutString
import Derived.ChangeOld
import Derived.Below
import Derived.Lib.SmallJoins
import Derived.Test.YtjhpblejlchhjaaGreatDoorOmOrderP2
import Derived.Test.YtjhpblejlchhjaaGreatDoorOmOrderP5
import Derived.Deep.SlicePairs
import Derived.Test.YtjhpblejlchhjaaGreatDoorOmOrderP10
namespace Go.Proofs.YtjhpblejlchhjaaGreatDoor
set_option maxRecDepth 100000
set_option maxHeartbeats 40000000
set_option linter.unusedVariables false
set_option linter.unusedSimpArgs false
section
open Go.RowKit Go.Shelf Go.Sort
theorem index15_ok (H:List (Int×Int)) (hm2:H.length≤1000000) (a:Option Addr) (ca:Nat) (n g:Int) (w:World) (hi:IsRow .i64 w a (prI H)):
    Calls Tryz.prog 22 #[.slice a H.length ca,hdV n g] w (AnsB w (.int .i64 (idxL H n g))):=by
 have HYES:=hid (fun k (hk:k<H.length) h hb=>idxL_at (l:=H) (n:=n) (g:=g) (k:=k) hk h hb);have HNO:=hid (fun hb=>idxL_none (l:=H) (n:=n) (g:=g) hb);generalize idxL H n g=r at *;have HI:=hid hi;clear hi;go_enter Tryz.func22,Tryz.ntmps22
 go_upto_region 1 with (fail)
 generalize hw0:w.alloc _=w0;obtain ⟨hb0,hxh⟩:=bx_one (l1:=hdL n g) hw0;have HB1:=hid hb0;have HI1:=hid (HI.out.below hb0);have c_h0:=bx_pb hxh 0 _ rfl;have c_h1:=bx_pb hxh 1 _ rfl;clear hw0 hb0 hxh HI;go_wp2
 go_loopg [5] H.length (fun gk iv wr=>∃(i q:Nat),i+gk=H.length∧iv= .int .i64 i∧wr=w0.drewN q∧Hid (∀j,j<i→H.getD j (0,0)≠(n,g)))
 case atStart=>exact ⟨0,0,by omega,rfl,rfl,hid (fun j hj=>by omega)⟩
 case round=>
  obtain ⟨i,q,hi,rfl,rfl,HT⟩:=hrel;have HB2:=hid (below_drewN HB1.out q);by_cases hlt:i<H.length
  · obtain ⟨b1,o1,rfl,c0,c1,z1⟩:=pr_get HI1.out hlt;have HE:=hid (fun (h:H.getD i (0,0)=(n,g))=>HYES.out i hlt h HT.out);have hpe:H.getD i (0,0)=((H.getD i (0,0)).1,(H.getD i (0,0)).2):=rfl;generalize (H.getD i (0,0)).1=x1 at *;generalize (H.getD i (0,0)).2=x2 at *;have HP:=hid hpe;clear hpe;by_cases h1:x1=n
    · subst h1;by_cases h2:x2=g
      · subst h2;have hr:=HE.out HP.out;subst hr;clear HE HP HYES HNO;go_wp2
        go_quiet (fail)
        go_wp2
        go_ret
        exact ⟨rfl,below_drewN HB2.out _⟩
      · have he:(x2==g)=false:=by simpa using h2
        have HN:=hid (fun (h:H.getD i (0,0)=(x1,g))=>h2 (by rw [HP.out] at h;exact (Prod.mk.inj h).2));clear h2 HE HP;go_wp2
        go_quiet (fail)
        go_wp2
        go_roundg (gk-1)
        case measure=>omega
        case rel=>exact ⟨i+1,_,by omega,by go_num,by first|rfl|simp,hid (fun j hj=>by
         rcases Nat.lt_or_ge j i with q|q
         · exact HT.out j q
         · rw [show j=i by omega];exact HN.out)⟩
    · have he:(x1==n)=false:=by simpa using h1
      have HN:=hid (fun (h:H.getD i (0,0)=(n,g))=>h1 (by rw [HP.out] at h;exact (Prod.mk.inj h).1));clear h1 HE HP;go_wp2
      go_quiet (fail)
      go_wp2
      go_roundg (gk-1)
      case measure=>omega
      case rel=>exact ⟨i+1,_,by omega,by go_num,by first|rfl|simp,hid (fun j hj=>by
       rcases Nat.lt_or_ge j i with q|q
       · exact HT.out j q
       · rw [show j=i by omega];exact HN.out)⟩
  · have him:i=H.length:=xo;have hr:=HNO.out (fun j hj=>HT.out j xo);subst hr;clear HYES HNO;go_wp2
    go_ret
    exact ⟨rfl,HB2.out⟩
theorem quiet_value {P:Program} {C:World→Prop} {o:Oper} {a:Act} {K:Act→Prop} (v:Value) (h:∀w,(execOp a.eval o).run P w= .ok (.value v) w) (hk:K (a.put o.dst v)):o.quiet P a C K:=
  ⟨_,fun w _=>by
   unfold Oper.quietAt;rw [h w];exact ⟨rfl,rfl⟩,hk⟩
theorem came_core (b da db:Option Addr) (bm om ln mm ca cb k k1:Nat) (n g x:Int) (hmm:mm=ln+1) (hkk:k1=k+1) (hx:x<0) (hk:k≤ln) (hl:ln≤1000000) (hca:ln+1≤ca) (hcb:ln≤cb) (hda:(if ca=k1 then some (⟨bm,om,none⟩:Addr) else (some (⟨bm,om,none⟩:Addr)).map (·.add (k1*2)))=da) (hdb:(if cb=k then b else b.map (·.add (k*2)))=db) (w:World)
    (cm0:w.cell? ⟨bm,om+k*2,none⟩=some (.int .i64 n)) (cm1:w.cell? ⟨bm,om+k*2+1,none⟩=some (.int .i64 g))
    (IX:Hid (∀W,Below w.heap.size w W→Calls Tryz.prog 22 #[.slice b ln cb,hdV n g] W (AnsB W (.int .i64 x))))
    (S1:Hid (∀W,Below w.heap.size w W→Calls Tryz.prog 50 #[.slice (some ⟨bm,om,none⟩) k ca,.slice b k cb] W (AnsB W (.bool true))))
    (S2:Hid (∀W,Below w.heap.size w W→Calls Tryz.prog 50 #[.slice da (mm-k1) (ca-k1),.slice db (ln-k) (cb-k)] W (AnsB W (.bool true)))):
    Calls Tryz.prog 23 #[.slice b ln cb,.slice (some ⟨bm,om,none⟩) mm ca,hdV n g,.int .i64 k] w (AnsB w (.bool true)):=by
 have HK1:Hid (k≤ca∧k≤cb):=hid ⟨by omega,by omega⟩;have HK2:Hid (k1≤mm∧mm≤ca∧k≤ln∧ln≤cb):=hid ⟨by omega,by omega,by omega,by omega⟩;have HDA:=hid hda;have HDB:=hid hdb;have hw1:IntKind.i64.wrap ((k:Int)+1)=(k1:Int):=(IntWalk.i64_in _ xo).trans xo;have hw2:IntKind.i64.wrap ((ln:Int)+1)=(mm:Int):=(IntWalk.i64_in _ xo).trans xo;have d0:decide ((0:Int)≤(k:Int))=true:=by simp
 have d1:decide ((k:Int)≤(ln:Int))=true:=by simp;omega
 have d1n:decide (k≤ln)=true:=by simp;omega
 have d2:decide (x<0)=true:=by simp;omega
 have hkI:(k:Int)<(mm:Int):=xo;have hkN:k<mm:=xo;clear hmm hkk hx hk hl hca hcb hda hdb;go_enter Tryz.func23,Tryz.ntmps23
 go_upto_region 1 with (fail)
 generalize hw0:w.alloc _=w0;obtain ⟨hb0,hx_h⟩:=bx_one hw0;have HXh:Hid (BX w0 (w.heap.size) 35 (hdL n g)):=hid hx_h;have hl_h:w.heap.size<w0.heap.size:=bx_lt hx_h;have HB0:=hid hb0;clear hw0 hb0 hx_h;have c_h0:=bx_pb HXh.out 0 _ rfl;have c_h1:=bx_pb HXh.out 1 _ rfl;have cn0:=(HB0.out.cell (World.block_lt_of_cell? _ _ cm0)).trans cm0;have cn1:=(HB0.out.cell (World.block_lt_of_cell? _ _ cm1)).trans cm1;clear cm0 cm1;have K0:=hid (fun d os=>kr w0 d os (IX.out _ (below_via (below_regrown w0 d os) HB0.out HB0.out.size)));have K1:=hid (fun d os=>kr w0 d os (S1.out _ (below_via (below_regrown w0 d os) HB0.out HB0.out.size)));have K2:=hid (fun d os=>kr w0 d os (S2.out _ (below_via (below_regrown w0 d os) HB0.out HB0.out.size)));have q0:=cg c_h0;have q1:=cg c_h1;have q2:=cg cn0;have q3:=cg cn1;refine wp_region_quiet_below xk xk ?_;repeat (first|go_big_quiet_skip|go_big_quiet_step (first|with_reducible exact K0.out _ _|with_reducible exact K1.out _ _|with_reducible exact K2.out _ _|exact K0.out _ _|exact K1.out _ _|exact K2.out _ _)|(go_big_quiet_want;refine quiet_value (.slice (some ⟨bm,om,none⟩) k ca) (fun w9=> ?e1) ?_;(case e1=>exact exec_slice_to 53 35 (.tmp 40) (.tmp 41) 2 (some ⟨bm,om,none⟩) mm ca k rfl Tryz.underlying53 xk rfl rfl HK1.out.1);(conv=>arg 1;simp only [Act.put,List.setIfInBounds_toArray,List.set_cons_succ,List.set_cons_zero]);go_big_quiet_on)|(go_big_quiet_want;refine quiet_value (.slice (b) k cb) (fun w9=> ?e1) ?_;(case e1=>exact exec_slice_to 53 35 (.tmp 43) (.tmp 44) 2 (b) ln cb k rfl Tryz.underlying53 xk rfl rfl HK1.out.2);(conv=>arg 1;simp only [Act.put,List.setIfInBounds_toArray,List.set_cons_succ,List.set_cons_zero]);go_big_quiet_on)|(go_big_quiet_want;refine quiet_value (.slice da (mm-(k1)) (ca-(k1))) (fun w9=> ?e1) ?_;(case e1=>exact exec_slice_from2 53 35 (.tmp 49) (.tmp 51) 2 (some ⟨bm,om,none⟩) (mm) ca (k1) da HDA.out rfl Tryz.underlying53 xk rfl rfl HK2.out.1 HK2.out.2.1);(conv=>arg 1;simp only [Act.put,List.setIfInBounds_toArray,List.set_cons_succ,List.set_cons_zero]);go_big_quiet_on)|(go_big_quiet_want;refine quiet_value (.slice db (ln-(k)) (cb-(k))) (fun w9=> ?e1) ?_;(case e1=>exact exec_slice_from2 53 35 (.tmp 53) (.tmp 54) 2 (b) (ln) cb (k) db HDB.out rfl Tryz.underlying53 xk rfl rfl HK2.out.2.2.1 HK2.out.2.2.2);(conv=>arg 1;simp only [Act.put,List.setIfInBounds_toArray,List.set_cons_succ,List.set_cons_zero]);go_big_quiet_on))
 refine wpQuiet_nil ?_;intro _ hw';obtain ⟨⟨dq,osq⟩,hw''⟩:=hw';subst hw'';have hbq:=below_regrown w0 dq osq;clear q0 q1 q2 q3 K0 K1 K2;generalize Sort.grow (redrawn w0 dq) osq=w1 at *;replace HXh:=hid (bx_below hbq HXh.out (bx_lt HXh.out));have HB1:=xv hbq HB0;have hz1:w0.heap.size≤w1.heap.size:=hbq.size;clear HB0;clear hbq;go_wp2
 go_ret
 exact ⟨rfl,HB1.out⟩
theorem ins_get (l:List (Int×Int)) {k:Nat} (hk:k≤l.length) (p:Int×Int):(insL l k p).getD k (0,0)=p∧(insL l k p).take k=l.take k∧(insL l k p).drop (k+1)=l.drop k:=by
 have hl:(l.take k).length=k:=by rw [List.length_take];omega
 refine ⟨?_,?_,?_⟩
 · rw [insL,List.getD_eq_getElem?_getD,List.getElem?_append_right xo,hl,Nat.sub_self];rfl
 · rw [insL,List.take_append_of_le_length xo,List.take_of_length_le xo]
 · rw [insL,List.drop_append,hl,List.drop_of_length_le xo];simp
theorem came_ok (l:List (Int×Int)) (k:Nat) (hk:k≤l.length) (hl:l.length≤1000000) (n g:Int) (hx:idxL l n g<0) (a b:Option Addr) (ca cb:Nat) (hca:l.length+1≤ca) (hcb:l.length≤cb) (hbn:b=none→cb=0) (w:World) (ha:IsRow .i64 w a (prI (insL l k (n,g)))) (hb:IsRow .i64 w b (prI l)):
    Calls Tryz.prog 23 #[.slice b l.length cb,.slice a (l.length+1:Nat) ca,hdV n g,.int .i64 k] w (AnsB w (.bool true)):=by
 obtain ⟨i1,i2,i3⟩:=ins_get l hk (n,g);have il:=insL_length hk (n,g);obtain ⟨bm,om,rfl,c0,c1,-⟩:=pr_get ha (i:=k) xo;rw [i1] at c0 c1;have IX:=fun W (hW:Below w.heap.size w W)=>index15_ok l hl b cb n g W (hb.below hW)
 have S1:∀W,Below w.heap.size w W→Calls Tryz.prog 50 #[.slice (some ⟨bm,om,none⟩) k ca,.slice b k cb] W (AnsB W (.bool true)):=fun W hW=>by
  have:=SameHd_ok (some ⟨bm,om,none⟩) b ca cb ((insL l k (n,g)).take k) (l.take k) W (row_take (ha.below hW) xo) (row_take (hb.below hW) hk) (by rw [List.length_take];omega);rw [i2,decide_eq_true rfl,List.length_take,Nat.min_eq_left hk] at this;exact this
 have ra:=row_from ha il hca (by omega:k+1≤l.length+1) (fun e=>by cases e);have rb:=row_from hb rfl hcb hk hbn;have S2:∀W,Below w.heap.size w W→Calls Tryz.prog 50 #[.slice (if ca=k+1 then some (⟨bm,om,none⟩:Addr) else (some (⟨bm,om,none⟩:Addr)).map (·.add ((k+1)*2))) (l.length+1-(k+1):Nat) (ca-(k+1)),.slice (if cb=k then b else b.map (·.add (k*2))) (l.length-k:Nat) (cb-k)] W (AnsB W (.bool true)):=fun W hW=>by
  have:=SameHd_ok _ _ (ca-(k+1)) (cb-k) ((insL l k (n,g)).drop (k+1)) (l.drop k) W (ra.1.below hW) (rb.1.below hW) (by rw [List.length_drop];omega);rw [i3,decide_eq_true rfl,List.length_drop] at this;rw [show l.length+1-(k+1)=l.length-k by omega];exact this
 exact came_core b _ _ bm om l.length (l.length+1) ca cb k (k+1) n g _ rfl rfl hx hk hl hca hcb rfl rfl w c0 c1 (hid IX) (hid S1) (hid S2)
end
section
open Go.RowKit Go.Shelf Go.Sort
theorem inE_two (c:Cfg) (s:SlC) (gs ps:List Int):inE c s gs ps=0∨inE c s gs ps=9:=by
 unfold inE;split
 · exact .inl rfl
 · exact .inr rfl
theorem L_in {r:OmR} (h:r.E=0):r.L=hdl r.s r.gs 0 r.s.ks.length:=if_pos h
theorem in_R {r:OmR} (sz:SzO r) (hE:r.E=0) (hi:inE r.c r.s r.gs r.ps=0) {k:Nat} (hk:k≤manyC r.s) (q:OmR) (hq:q=inR r.c r.s r.gs r.ps r.mv 0 k):
    q.E=0∧q.L=insL r.L k (r.nN 0,r.nK 0):=by
 have hR:q=⟨r.c,inS r.c r.s r.gs r.ps k,makeG r.gs r.ps 0,(inX r.c r.s r.gs r.ps r.mv k).1,(inX r.c r.s r.gs r.ps r.mv k).2⟩:=hq.trans (if_pos rfl);have e:q.E=0:=by rw [hR];exact in_om sz.u hE hi hk r.mv
 refine ⟨e,?_⟩;rw [L_in e,L_in hE];have:=in_hdl sz.u hE hi hk;rw [hR];exact this
theorem idx_fst {l:List (Int×Int)} {n g:Int} (h:∀q ∈ l,q.1≠n):idxL l n g<0:=by
 rw [idxL_none (n:=n) (g:=g) fun i hi e=> ?_]
 · decide
 · rw [List.getD_eq_getElem?_getD,List.getElem?_eq_getElem hi] at e;exact h _ (List.getElem_mem hi) (congrArg Prod.fst e)
theorem L_fst {r:OmR} (h:r.E=0) {q:Int×Int} (hq:q ∈ r.L):∃p ∈ prs r.s 0 r.s.ks.length,p.1=q.1:=by
 rw [L_in h,hdl_prs,List.mem_map] at hq;obtain ⟨p,hp,rfl⟩:=hq;exact ⟨p,hp,rfl⟩
theorem new_idx {r:OmR} (h:r.E=0) (hi:inE r.c r.s r.gs r.ps=0):idxL r.L (r.nN 0) (r.nK 0)<0:=
  idx_fst fun q hq=>by
   obtain ⟨p,hp,e⟩:=L_fst h hq;rw [←e];exact make_new h (in_zero hi).1 p hp
theorem ins_del {l:List (Int×Int)} {k:Nat} (hk:k<l.length):insL (delL l k) k (l.getD k (0,0))=l:=by
 have hl:(l.take k).length=k:=by rw [List.length_take];omega
 have e:l.getD k (0,0)=l[k]:=by rw [List.getD_eq_getElem?_getD,List.getElem?_eq_getElem hk];rfl
 rw [insL,delL,List.take_append_of_le_length xo,List.take_of_length_le xo,List.drop_append,hl,Nat.sub_self,List.drop_of_length_le xo,List.nil_append,e,List.drop_zero,←List.drop_eq_getElem_cons hk,List.take_append_drop]
theorem del_map (l:List (Int×Int)) (f:Int×Int→Int×Int) (k:Nat):delL (l.map f) k=(delL l k).map f:=by
 rw [delL,delL,List.map_append,List.map_take,List.map_drop]
theorem out_R {r:OmR} (sz:SzO r) {n g:Int} (hE:r.E=0) (hi:isH r.gs r.ps n g=true):
    (r.dR n g).E=0∧(r.dR n g).L=delL r.L (rnkH r.s r.ps n)∧r.L=insL (delL r.L (rnkH r.s r.ps n)) (rnkH r.s r.ps n) (n,g)∧idxL (delL r.L (rnkH r.s r.ps n)) n g<0∧rnkH r.s r.ps n<r.L.length∧idxL r.L n g=(rnkH r.s r.ps n:Int):=by
 have hd:outE r.c r.s r.gs r.ps n g=0:=by rw [outE,if_pos (show omE _ _ _ _=0 from hE),if_pos hi]
 have hR:r.dR n g=⟨r.c,outS r.c r.s r.ps n,dropG r.gs r.ps n g,(outX r.c r.s r.gs r.ps r.mv n g).1,(outX r.c r.s r.gs r.ps r.mv n g).2⟩:=if_pos hd;have e:(r.dR n g).E=0:=by rw [hR];exact out_om sz.u hE hi r.mv
 obtain ⟨ri,-⟩:=rnk_idx hE hi;have eL:(r.dR n g).L=delL r.L (rnkH r.s r.ps n):=by
  rw [L_in e,L_in hE];have:=out_hdl sz.u hE hi;rw [hR];exact this
 rw [←L_in hE] at ri;rcases idxL_cases r.L n g with ⟨c1,-⟩ | ⟨k,c1,c2,c3⟩
 · rw [ri] at c1;omega
 · obtain rfl:k=rnkH r.s r.ps n:=by rw [ri] at c1;omega
   refine ⟨e,eL,?_,?_,c2,ri⟩
   · rw [←c3];exact (ins_del c2).symm
   · obtain ⟨r1,r2⟩:=rnk_pair hE hi;rw [L_in hE,hdl_prs,del_map];refine idx_fst fun q hq=> ?_
     rw [List.mem_map] at hq;obtain ⟨p,hp,rfl⟩:=hq;have:=Dst.at (om_dst hE) r1 hp;rw [r2] at this;exact this
theorem cameQ (l m:List (Int×Int)) (k:Nat) (hk:k≤l.length) (hl:l.length≤1000000) (n g:Int) (hm:m=insL l k (n,g)) (hx:idxL l n g<0) (W:World) (b:Option Addr) (cb:Nat) (a:Option Addr) (ca:Nat) (hb:RowH W b cb l) (ha:RowH W a ca m):
    Calls Tryz.prog 23 #[.slice b l.length cb,.slice a m.length ca,hdV n g,.int .i64 k] W (AnsB W (.bool true)):=by
 have il:=insL_length hk (n,g);subst hm;have h3:=ha.2.2;rw [il] at h3 ⊢;exact came_ok l k hk hl n g hx a b ca cb h3 hb.2.2 hb.2.1 W ha.1 hb.1
theorem del_len {l:List (Int×Int)} (k:Nat):(delL l k).length≤l.length:=by
 rw [delL,List.length_append,List.length_take,List.length_drop];omega
theorem OmOrder_walk (w:World) (r:OmR) (A:OmA) (h:RawO w r A) (n g:Int) (hT:TabAt w):Calls Tryz.prog 4 #[ordV r A,hdV n g] w (AnsB w (.bool true)):=by
 have AL:=hid (fun W (hb:Below w.heap.size w W)=>alive15_ok W (hT.below hb));have GR:=hid (fun W=>oGreat r A W);cases hg:r.gr with
 | true=>
  rw [hg] at GR;exact OO_great r r r r r A n g 0 0 0 0 0 0 w AL GR
 | false=>
  rw [hg] at GR;have hI:=h.inO hg;have hlen:=L_len hI.sz;have LS:=fun W (hb:Below w.heap.size w W)=>oListL r A W (hI.below hb)
  have IX:=fun W (b:Option Addr) (cb:Nat) (hb:Below w.heap.size w W) (hr:RowH W b cb r.L)=>index15_ok r.L hlen b cb n g W hr.1
  have KF:=fun W (hb:Below w.heap.size w W)=>oFirst r A W (hI.below hb) (hT.below hb)
  have KA:=fun W (hb:Below w.heap.size w W)=>oAfter r A n g W (hI.below hb) (hT.below hb)
  have KB:=fun W (hb:Below w.heap.size w W)=>oBefore r A n g W (hI.below hb) (hT.below hb)
  have KD:=fun W (hb:Below w.heap.size w W)=>oDelete r A n g W (hI.below hb) (hT.below hb)
  by_cases hE:r.E=0
  · have hE':omE r.c r.s r.gs r.ps=0:=hE;have f1:r.fE=inE r.c r.s r.gs r.ps:=if_pos hE';have hLm:r.L.length=manyC r.s:=by rw [L_in hE,hdl_length];rfl
    rw [hE] at LS;by_cases hi:isH r.gs r.ps n g=true
    · have b1:r.bE n g=inE r.c r.s r.gs r.ps:=by unfold OmR.bE bsdE;rw [if_pos hE',if_pos hi]
      have d1:r.dE n g=0:=by unfold OmR.dE outE;rw [if_pos hE',if_pos hi]
      obtain ⟨o1,o2,o3,o4,o5,o6⟩:=out_R hI.sz hE hi;have hkb:(0:Int)≤(rnkH r.s r.ps n:Int)∧(rnkH r.s r.ps n:Int)≤1000000:=xo;rw [d1] at KD;rw [o6] at IX;have LD:=hid (fun W A2 (_:Below w.heap.size w W) (h2:InO W (r.dR n g) A2)=>o1 ▸ oListL (r.dR n g) A2 W h2);have CD:=hid (fun W A2 (_:Below w.heap.size w W) (h2:InO W (r.dR n g) A2)=>o1 ▸ oCheck (r.dR n g) A2 W h2);have MD:=hid (fun W b cb a ca (_:Below w.heap.size w W) (hb:RowH W b cb (r.dR n g).L) (ha:RowH W a ca r.L)=>cameQ (r.dR n g).L r.L (rnkH r.s r.ps n) (by rw [o2];have:=delL_len o5;omega) (by rw [o2];have:=del_len (l:=r.L) (rnkH r.s r.ps n);omega) n g (by rw [o2];exact o3) (by rw [o2];exact o4) W b cb a ca hb ha);rcases inE_two r.c r.s r.gs r.ps with hi0|hi9
      · rw [f1,hi0] at KF;rw [b1,hi0] at KA KB;obtain ⟨q1,q2⟩:=in_R hI.sz hE hi0 (Nat.zero_le _) r.fR (by unfold OmR.fR;rw [f1,hi0]);obtain ⟨q3,q4⟩:=in_R hI.sz hE hi0 (k:=rnkH r.s r.ps n+1) xo (r.aR n g) (by unfold OmR.aR;rw [b1,hi0]);obtain ⟨q5,q6⟩:=in_R hI.sz hE hi0 (k:=rnkH r.s r.ps n) xo (r.bR n g) (by unfold OmR.bR;rw [b1,hi0]);have hx:=new_idx hE hi0;exact OO_A r r.fR (r.aR n g) (r.bR n g) (r.dR n g) A n g _ _ _ _ _ _ (rnkH r.s r.ps n) hkb w AL GR (hid LS) (hid IX) (hid KF) (hid KA) (hid KB) (hid KD)
          (hid fun W A2 _ h2=>q1 ▸ oListL r.fR A2 W h2) (hid fun W A2 _ h2=>q1 ▸ oCheck r.fR A2 W h2) (hid fun W A2 _ h2=>q3 ▸ oListL (r.aR n g) A2 W h2) (hid fun W A2 _ h2=>q3 ▸ oCheck (r.aR n g) A2 W h2) (hid fun W A2 _ h2=>q5 ▸ oListL (r.bR n g) A2 W h2) (hid fun W A2 _ h2=>q5 ▸ oCheck (r.bR n g) A2 W h2) LD CD
          (hid fun W b cb a ca _ hb ha=>cameQ r.L r.fR.L 0 (Nat.zero_le _) hlen _ _ q2 hx W b cb a ca hb ha)
          (hid fun W b cb a ca _ hb ha=>cameQ r.L (r.aR n g).L (rnkH r.s r.ps n+1) xo hlen _ _ q4 hx W b cb a ca hb ha)
          (hid fun W b cb a ca _ hb ha=>cameQ r.L (r.bR n g).L (rnkH r.s r.ps n) xo hlen _ _ q6 hx W b cb a ca hb ha) MD
      · rw [f1,hi9] at KF;rw [b1,hi9] at KA KB;exact OO_B r r.fR (r.aR n g) (r.bR n g) (r.dR n g) A n g _ _ _ _ _ _ (rnkH r.s r.ps n) hkb w AL GR (hid LS) (hid IX) (hid KF) (hid KA) (hid KB) (hid KD) LD CD MD
    · have b1:r.bE n g=140:=by unfold OmR.bE bsdE;rw [if_pos hE',if_neg hi]
      have d1:r.dE n g=140:=by unfold OmR.dE outE;rw [if_pos hE',if_neg hi]
      have hx1:idxL r.L n g= -1:=by
       rw [L_in hE];rcases idx_lab (omE_zero hE').2.1 (omE_zero hE').2.2 n g with ⟨-,e⟩ | ⟨k,e,-⟩
       · exact e
       · exact absurd e hi
      rw [d1] at KD;rw [b1] at KA KB;rw [hx1] at IX;rcases inE_two r.c r.s r.gs r.ps with hi0|hi9
      · rw [f1,hi0] at KF;obtain ⟨q1,q2⟩:=in_R hI.sz hE hi0 (Nat.zero_le _) r.fR (by unfold OmR.fR;rw [f1,hi0]);exact OO_C r r.fR (r.aR n g) (r.bR n g) (r.dR n g) A n g _ _ _ _ _ _ w AL GR (hid LS) (hid IX) (hid KF) (hid KA) (hid KB) (hid KD)
          (hid fun W A2 _ h2=>q1 ▸ oListL r.fR A2 W h2) (hid fun W A2 _ h2=>q1 ▸ oCheck r.fR A2 W h2)
          (hid fun W b cb a ca _ hb ha=>cameQ r.L r.fR.L 0 (Nat.zero_le _) hlen _ _ q2 (new_idx hE hi0) W b cb a ca hb ha)
      · rw [f1,hi9] at KF;exact OO_D r r.fR (r.aR n g) (r.bR n g) (r.dR n g) A n g _ _ _ _ _ _ w AL GR (hid LS) (hid IX) (hid KF) (hid KA) (hid KB) (hid KD)
  · have hE':¬omE r.c r.s r.gs r.ps=0:=hE;have f1:r.fE=r.E:=if_neg hE';have b1:r.bE n g=r.E:=if_neg hE';have d1:r.dE n g=r.E:=if_neg hE';rw [f1] at KF;rw [b1] at KA KB;rw [d1] at KD;exact OO_err r r.fR (r.aR n g) (r.bR n g) (r.dR n g) A n g _ _ _ _ _ _ _ r.E hE w AL GR (hid LS) (hid IX) (hid KF) (hid KA) (hid KB) (hid KD)
end
section
open Go.ChangeShapes Go.WideShapes Go.ChangeAt Go.RowKit Go.Joins
end
section
open Go.ChangeShapes Go.WideShapes Go.ChangeAt Go.RowKit Go.Joins
theorem open_rowK {H:Type} {enc:TypeId×Value→H} {w:World} {fuel:Nat} {base:Nat} {spare:Nat→Bool} {held:Bool} {t e:TypeId} {k:IntKind} {cs:List Value} {x:DataW H×List MemPlace}
    (ht:Tryz.prog.underlying t=some (.slice e)) (he:Tryz.prog.underlying e=some (.int k)) (hc:Tryz.prog.cellsOf e=1) (h:DataW.trod enc Tryz.prog w base spare held fuel t cs=some x):
    ∃(ao:Option Addr) (xs:List Int) (cap:Nat),cs=[.slice ao xs.length cap]∧IsRow k w ao xs∧(ao=none→cap=0)∧xs.length≤maxLen∧(∀n ∈ xs,(Lit.int k n).wf=true):=by
 rcases open_ints ht he hc h with ⟨rfl,rfl⟩ | ⟨a,len,cap,zs,rfl,hb,hl,hm,hz,rfl,hc,hw⟩
 · exact ⟨none,[],0,rfl,fun i hi=>by simp at hi,fun _=>rfl,by simp,by simp⟩
 · have hlen:len≤zs.length:=by rw [hz];split<;>omega
   refine ⟨some a,zs.take len,cap,by simp [hlen],?_,fun h=>(by cases h),by simp;omega,fun n hn=>hw n (List.mem_of_mem_take hn)⟩;intro i hi;have hi':i<len:=by simp at hi;omega
   obtain ⟨b,off,sp⟩:=a;have h0:=hc 0 xo;obtain rfl:sp=none:=by simpa [Addr.add] using World.cell?_spot h0
   refine ⟨b,off,rfl,?_,fun j hj=> ?_⟩
   · have:=World.block_lt_of_cell? w _ h0;simpa [Addr.add] using this
   · have hj':j<len:=by simp at hj;omega
     have:=hc j xo;rw [Addr.add_lit] at this;rw [this];simp [List.getD_eq_getElem?_getD,List.getElem?_take,hj']
end
section
open Go.ChangeShapes Go.WideShapes Go.ChangeAt Go.RowKit Go.Joins Go.Deep Go.WideElems
theorem trod_struct_six {P:Program} {H:Type} {enc:TypeId×Value→H} {w:World} {base:Nat} {spare:Nat→Bool} {held:Bool} {t:TypeId} {f0 f1 f2 f3 f4 f5:Field} {fuel:Nat} {cs:List Value} {x:DataW H×List MemPlace} (ht:P.underlying t=some (.struct #[f0,f1,f2,f3,f4,f5])) (h:DataW.trod enc P w base spare held fuel t cs=some x):
    ∃ y0 y1 y2 y3 y4 y5 n,DataW.trod enc P w base spare held n f0.type ((cs.drop f0.offset).take (P.cellsOf f0.type))=some y0∧DataW.trod enc P w base spare held n f1.type ((cs.drop f1.offset).take (P.cellsOf f1.type))=some y1∧DataW.trod enc P w base spare held n f2.type ((cs.drop f2.offset).take (P.cellsOf f2.type))=some y2∧
      DataW.trod enc P w base spare held n f3.type ((cs.drop f3.offset).take (P.cellsOf f3.type))=some y3∧DataW.trod enc P w base spare held n f4.type ((cs.drop f4.offset).take (P.cellsOf f4.type))=some y4∧DataW.trod enc P w base spare held n f5.type ((cs.drop f5.offset).take (P.cellsOf f5.type))=some y5:=by
 obtain ⟨xs,n,_,rfl,hl,hlen,hf⟩:=DataW.trod_struct ht h;match xs,hlen with
 | [y0,y1,y2,y3,y4,y5],_=>exact ⟨y0,y1,y2,y3,y4,y5,n,by simpa using hf 0 f0 rfl,by simpa using hf 1 f1 rfl,by simpa using hf 2 f2 rfl,by simpa using hf 3 f3 rfl,by simpa using hf 4 f4 rfl,by simpa using hf 5 f5 rfl⟩
theorem u64_wf {n:Int} (h:(Lit.int .u64 n).wf=true):0≤n∧n<18446744073709551616:=by
 simp [Lit.wf,IntKind.min,IntKind.max,IntKind.signed,IntKind.bits] at h;omega
end
section
open Go.ChangeShapes Go.WideShapes Go.ChangeAt Go.RowKit Go.Joins Go.Deep Go.WideElems
theorem trod_struct_nine {P:Program} {H:Type} {enc:TypeId×Value→H} {w:World} {base:Nat} {spare:Nat→Bool} {held:Bool} {t:TypeId} {f0 f1 f2 f3 f4 f5 f6 f7 f8:Field} {fuel:Nat} {cs:List Value} {x:DataW H×List MemPlace} (ht:P.underlying t=some (.struct #[f0,f1,f2,f3,f4,f5,f6,f7,f8])) (h:DataW.trod enc P w base spare held fuel t cs=some x):
    ∃y0 y1 y2 y3 y4 y5 y6 y7 y8 n,DataW.trod enc P w base spare held n f0.type ((cs.drop f0.offset).take (P.cellsOf f0.type))=some y0∧DataW.trod enc P w base spare held n f1.type ((cs.drop f1.offset).take (P.cellsOf f1.type))=some y1∧DataW.trod enc P w base spare held n f2.type ((cs.drop f2.offset).take (P.cellsOf f2.type))=some y2∧DataW.trod enc P w base spare held n f3.type ((cs.drop f3.offset).take (P.cellsOf f3.type))=some y3∧DataW.trod enc P w base spare held n f4.type ((cs.drop f4.offset).take (P.cellsOf f4.type))=some y4∧DataW.trod enc P w base spare held n f5.type ((cs.drop f5.offset).take (P.cellsOf f5.type))=some y5∧DataW.trod enc P w base spare held n f6.type ((cs.drop f6.offset).take (P.cellsOf f6.type))=some y6∧DataW.trod enc P w base spare held n f7.type ((cs.drop f7.offset).take (P.cellsOf f7.type))=some y7∧DataW.trod enc P w base spare held n f8.type ((cs.drop f8.offset).take (P.cellsOf f8.type))=some y8:=by
 obtain ⟨xs,n,_,rfl,hl,hlen,hf⟩:=DataW.trod_struct ht h;match xs,hlen with
 | [y0,y1,y2,y3,y4,y5,y6,y7,y8],_=>exact ⟨y0,y1,y2,y3,y4,y5,y6,y7,y8,n,by simpa using hf 0 f0 rfl,by simpa using hf 1 f1 rfl,by simpa using hf 2 f2 rfl,by simpa using hf 3 f3 rfl,by simpa using hf 4 f4 rfl,by simpa using hf 5 f5 rfl,by simpa using hf 6 f6 rfl,by simpa using hf 7 f7 rfl,by simpa using hf 8 f8 rfl⟩
end
section
open Go.ChangeShapes Go.WideShapes Go.ChangeAt Go.RowKit Go.Joins Go.Deep Go.WideElems
theorem open_rowC {H:Type} {enc:TypeId×Value→H} {w:World} {fuel:Nat} {base:Nat} {spare:Nat→Bool} {held:Bool} {t e:TypeId} {k:IntKind} {cs:List Value} {x:DataW H×List MemPlace} {ao:Option Addr} {n cap:Nat}
    (ht:Tryz.prog.underlying t=some (.slice e)) (he:Tryz.prog.underlying e=some (.int k)) (hc:Tryz.prog.cellsOf e=1) (h:DataW.trod enc Tryz.prog w base spare held fuel t cs=some x) (hcs:cs=[.slice ao n cap]):n≤cap:=by
 rcases open_ints ht he hc h with ⟨rfl,rfl⟩ | ⟨a,len,cap,zs,rfl,hb,hl,hm,hz,rfl,hc,hw⟩
 · cases hcs;exact Nat.le_refl _
 · cases hcs;exact hl
end
section
open Go.ChangeShapes Go.WideShapes Go.ChangeAt Go.RowKit Go.Joins
theorem open_hand {H:Type} {enc:TypeId×Value→H} {w:World} {base:Nat} {spare:Nat→Bool} {held:Bool} {r:Reach} {b0:Nat} {v:Value} {d:DataW H} {p:List MemPlace}
    (hv:Value.okWide Tryz.prog w r b0 35 v) (h:DataW.Trod enc Tryz.prog w base spare held 35 v d p):
    ∃(n g:Int),v= .agg #[.int .i64 n,.int .i64 g]∧(Lit.int .i64 n).wf=true∧(Lit.int .i64 g).wf=true:=by
 obtain ⟨v0,v1,y0,y1,k,rfl,rfl,rfl,t0,t1⟩:=open_agg2 Tryz.underlying35 xk xk hv h;obtain ⟨n,e0,-,h0⟩:=DataW.trod_int Tryz.underlying3 t0;obtain ⟨g,e1,-,h1⟩:=DataW.trod_int Tryz.underlying3 t1;simp only [List.cons.injEq,and_true] at e0 e1;subst e0 e1;exact ⟨n,g,rfl,h0,h1⟩
end
section
open Go.ChangeShapes Go.WideShapes Go.ChangeAt Go.RowKit Go.Joins Go.Deep Go.WideElems
theorem array_eighteen {α : Type} {cs:Array α} (h:cs.size=18):∃c0 c1 c2 c3 c4 c5 c6 c7 c8 c9 c10 c11 c12 c13 c14 c15 c16 c17,cs= #[c0,c1,c2,c3,c4,c5,c6,c7,c8,c9,c10,c11,c12,c13,c14,c15,c16,c17]:=by
 obtain ⟨l⟩:=cs;match l,h with
 | [c0,c1,c2,c3,c4,c5,c6,c7,c8,c9,c10,c11,c12,c13,c14,c15,c16,c17],_=>exact ⟨c0,c1,c2,c3,c4,c5,c6,c7,c8,c9,c10,c11,c12,c13,c14,c15,c16,c17,rfl⟩
theorem trod_struct_four {P:Program} {H:Type} {enc:TypeId×Value→H} {w:World} {base:Nat} {spare:Nat→Bool} {held:Bool} {t:TypeId} {f0 f1 f2 f3:Field} {fuel:Nat} {cs:List Value} {x:DataW H×List MemPlace} (ht:P.underlying t=some (.struct #[f0,f1,f2,f3])) (h:DataW.trod enc P w base spare held fuel t cs=some x):
    ∃y0 y1 y2 y3 n,DataW.trod enc P w base spare held n f0.type ((cs.drop f0.offset).take (P.cellsOf f0.type))=some y0∧DataW.trod enc P w base spare held n f1.type ((cs.drop f1.offset).take (P.cellsOf f1.type))=some y1∧DataW.trod enc P w base spare held n f2.type ((cs.drop f2.offset).take (P.cellsOf f2.type))=some y2∧DataW.trod enc P w base spare held n f3.type ((cs.drop f3.offset).take (P.cellsOf f3.type))=some y3:=by
 obtain ⟨xs,n,_,rfl,hl,hlen,hf⟩:=DataW.trod_struct ht h;match xs,hlen with
 | [y0,y1,y2,y3],_=>exact ⟨y0,y1,y2,y3,n,by simpa using hf 0 f0 rfl,by simpa using hf 1 f1 rfl,by simpa using hf 2 f2 rfl,by simpa using hf 3 f3 rfl⟩
theorem trod_struct_twoP {P:Program} {H:Type} {enc:TypeId×Value→H} {w:World} {base:Nat} {spare:Nat→Bool} {held:Bool} {t:TypeId} {f0 f1:Field} {fuel:Nat} {cs:List Value} {x:DataW H×List MemPlace} (ht:P.underlying t=some (.struct #[f0,f1])) (h:DataW.trod enc P w base spare held fuel t cs=some x):
    ∃y0 y1 n,DataW.trod enc P w base spare held n f0.type ((cs.drop f0.offset).take (P.cellsOf f0.type))=some y0∧DataW.trod enc P w base spare held n f1.type ((cs.drop f1.offset).take (P.cellsOf f1.type))=some y1:=by
 obtain ⟨xs,n,_,rfl,hl,hlen,hf⟩:=DataW.trod_struct ht h;match xs,hlen with
 | [y0,y1],_=>exact ⟨y0,y1,n,by simpa using hf 0 f0 rfl,by simpa using hf 1 f1 rfl⟩
theorem nine_ofP {P:Program} {H:Type} {enc:TypeId×Value→H} {w:World} {base:Nat} {spare:Nat→Bool} {held:Bool} {t:TypeId} {f0 f1 f2 f3 f4 f5 f6 f7 f8:Field} {fuel:Nat} {c0 c1 c2 c3 c4 c5 c6 c7 c8:Value} {x:DataW H×List MemPlace} (hs:P.underlying t=some (.struct #[f0,f1,f2,f3,f4,f5,f6,f7,f8])) (hone:oneCellFields P #[f0,f1,f2,f3,f4,f5,f6,f7,f8]=true) (h:DataW.trod enc P w base spare held fuel t [c0,c1,c2,c3,c4,c5,c6,c7,c8]=some x):
    ∃(y0 y1 y2 y3 y4 y5 y6 y7 y8:DataW H×List MemPlace) (n:Nat),DataW.trod enc P w base spare held n f0.type [c0]=some y0∧DataW.trod enc P w base spare held n f1.type [c1]=some y1∧DataW.trod enc P w base spare held n f2.type [c2]=some y2∧DataW.trod enc P w base spare held n f3.type [c3]=some y3∧DataW.trod enc P w base spare held n f4.type [c4]=some y4∧DataW.trod enc P w base spare held n f5.type [c5]=some y5∧DataW.trod enc P w base spare held n f6.type [c6]=some y6∧DataW.trod enc P w base spare held n f7.type [c7]=some y7∧DataW.trod enc P w base spare held n f8.type [c8]=some y8:=by
 obtain ⟨y0,y1,y2,y3,y4,y5,y6,y7,y8,n,h0,h1,h2,h3,h4,h5,h6,h7,h8⟩:=trod_struct_nine hs h;obtain ⟨o0,k0⟩:=hone_of hone 0 f0 rfl;obtain ⟨o1,k1⟩:=hone_of hone 1 f1 rfl;obtain ⟨o2,k2⟩:=hone_of hone 2 f2 rfl;obtain ⟨o3,k3⟩:=hone_of hone 3 f3 rfl;obtain ⟨o4,k4⟩:=hone_of hone 4 f4 rfl;obtain ⟨o5,k5⟩:=hone_of hone 5 f5 rfl;obtain ⟨o6,k6⟩:=hone_of hone 6 f6 rfl;obtain ⟨o7,k7⟩:=hone_of hone 7 f7 rfl;obtain ⟨o8,k8⟩:=hone_of hone 8 f8 rfl;exact ⟨y0,y1,y2,y3,y4,y5,y6,y7,y8,n,by simpa [o0,k0] using h0,by simpa [o1,k1] using h1,by simpa [o2,k2] using h2,by simpa [o3,k3] using h3,by simpa [o4,k4] using h4,by simpa [o5,k5] using h5,by simpa [o6,k6] using h6,by simpa [o7,k7] using h7,by simpa [o8,k8] using h8⟩
theorem six_ofP {P:Program} {H:Type} {enc:TypeId×Value→H} {w:World} {base:Nat} {spare:Nat→Bool} {held:Bool} {t:TypeId} {f0 f1 f2 f3 f4 f5:Field} {fuel:Nat} {c0 c1 c2 c3 c4 c5:Value} {x:DataW H×List MemPlace} (hs:P.underlying t=some (.struct #[f0,f1,f2,f3,f4,f5])) (hone:oneCellFields P #[f0,f1,f2,f3,f4,f5]=true) (h:DataW.trod enc P w base spare held fuel t [c0,c1,c2,c3,c4,c5]=some x):
    ∃(y0 y1 y2 y3 y4 y5:DataW H×List MemPlace) (n:Nat),DataW.trod enc P w base spare held n f0.type [c0]=some y0∧DataW.trod enc P w base spare held n f1.type [c1]=some y1∧DataW.trod enc P w base spare held n f2.type [c2]=some y2∧DataW.trod enc P w base spare held n f3.type [c3]=some y3∧DataW.trod enc P w base spare held n f4.type [c4]=some y4∧DataW.trod enc P w base spare held n f5.type [c5]=some y5:=by
 obtain ⟨y0,y1,y2,y3,y4,y5,n,h0,h1,h2,h3,h4,h5⟩:=trod_struct_six hs h;obtain ⟨o0,k0⟩:=hone_of hone 0 f0 rfl;obtain ⟨o1,k1⟩:=hone_of hone 1 f1 rfl;obtain ⟨o2,k2⟩:=hone_of hone 2 f2 rfl;obtain ⟨o3,k3⟩:=hone_of hone 3 f3 rfl;obtain ⟨o4,k4⟩:=hone_of hone 4 f4 rfl;obtain ⟨o5,k5⟩:=hone_of hone 5 f5 rfl;exact ⟨y0,y1,y2,y3,y4,y5,n,by simpa [o0,k0] using h0,by simpa [o1,k1] using h1,by simpa [o2,k2] using h2,by simpa [o3,k3] using h3,by simpa [o4,k4] using h4,by simpa [o5,k5] using h5⟩
theorem open_or {H:Type} {enc:TypeId×Value→H} {w:World} {base:Nat} {spare:Nat→Bool} {held:Bool} {r:Reach} {b0:Nat} {v:Value} {d:DataW H} {p:List MemPlace}
    (hv:Value.okWide Tryz.prog w r b0 33 v) (h:DataW.Trod enc Tryz.prog w base spare held 33 v d p):
    ∃(r:OmR) (A:OmA),v=ordV r A∧RawO w r A:=by
 obtain ⟨cs,rfl,hsz⟩:=okWide_struct Tryz.underlying33 hv;obtain ⟨c0,c1,c2,c3,c4,c5,c6,c7,c8,c9,c10,c11,c12,c13,c14,c15,c16,c17,rfl⟩:=array_eighteen (hsz.trans xk);obtain ⟨fuel,hf⟩:=h;obtain ⟨y0,y1,y2,y3,n,h0,h1,h2,h3⟩:=trod_struct_four Tryz.underlying33 hf;replace h0:DataW.trod enc Tryz.prog w base spare held n 23 [c0,c1,c2,c3,c4,c5,c6,c7,c8]=some y0:=h0;replace h1:DataW.trod enc Tryz.prog w base spare held n 29 [c9,c10,c11,c12,c13,c14]=some y1:=h1;replace h2:DataW.trod enc Tryz.prog w base spare held n 31 [c15,c16]=some y2:=h2;replace h3:DataW.trod enc Tryz.prog w base spare held n 27 [c17]=some y3:=h3;obtain ⟨u0,u1,u2,u3,u4,u5,u6,u7,u8,n2,t0,t1,t2,t3,t4,t5,t6,t7,t8⟩:=nine_ofP Tryz.underlying23 xk h0;obtain ⟨z0,e0,-,-⟩:=DataW.trod_int Tryz.underlying5 t0;obtain ⟨z1,e1,-,-⟩:=DataW.trod_int Tryz.underlying3 t1;obtain ⟨z2,e2,-,-⟩:=DataW.trod_int Tryz.underlying3 t2;obtain ⟨z3,e3,-,-⟩:=DataW.trod_int Tryz.underlying3 t3;obtain ⟨z4,e4,-,-⟩:=DataW.trod_int Tryz.underlying3 t4;obtain ⟨z5,e5,-,-⟩:=DataW.trod_int Tryz.underlying3 t5;obtain ⟨z6,e6,-,-⟩:=DataW.trod_int Tryz.underlying3 t6;obtain ⟨z7,e7,-,-⟩:=DataW.trod_int Tryz.underlying3 t7;obtain ⟨z8,e8,-,-⟩:=DataW.trod_int Tryz.underlying3 t8;simp only [List.cons.injEq,and_true] at e0 e1 e2 e3 e4 e5 e6 e7 e8;subst e0 e1 e2 e3 e4 e5 e6 e7 e8;clear t0 t1 t2 t3 t4 t5 t6 t7 t8;obtain ⟨s0,s1,s2,s3,s4,s5,n3,t0,t1,t2,t3,t4,t5⟩:=six_ofP Tryz.underlying29 xk h1;obtain ⟨l,e0,-,-⟩:=DataW.trod_int Tryz.underlying3 t0;obtain ⟨wa,ws,wc,e1,w1,w2,w3,w4⟩:=open_rowK Tryz.underlying24 Tryz.underlying27 xk t1;obtain ⟨ka,ks,kc,e2,k1,k2,k3,_⟩:=open_rowK Tryz.underlying25 Tryz.underlying2 xk t2;obtain ⟨va,vs,vc,e3,l1,l2,l3,_⟩:=open_rowK Tryz.underlying25 Tryz.underlying2 xk t3;obtain ⟨ca,cs,cc,e4,m1,m2,m3,_⟩:=open_rowK Tryz.underlying26 Tryz.underlying3 xk t4;obtain ⟨o,e5,-,ow⟩:=DataW.trod_int Tryz.underlying27 t5;have r1:=open_rowC Tryz.underlying26 Tryz.underlying3 xk t4 e4;simp only [List.cons.injEq,and_true] at e0 e1 e2 e3 e4 e5;subst e0 e1 e2 e3 e4 e5;clear t0 t1 t2 t3 t4 t5;obtain ⟨x0,x1,n4,t0,t1⟩:=trod_struct_twoP Tryz.underlying31 h2;replace t0:DataW.trod enc Tryz.prog w base spare held n4 26 [c15]=some x0:=t0;replace t1:DataW.trod enc Tryz.prog w base spare held n4 26 [c16]=some x1:=t1;obtain ⟨ga,gs,gc,e0,g1,g2,g3,_⟩:=open_rowK Tryz.underlying26 Tryz.underlying3 xk t0;obtain ⟨pa,ps,pc,e1,p1,p2,p3,_⟩:=open_rowK Tryz.underlying26 Tryz.underlying3 xk t1;obtain ⟨mv,e2,-,mw⟩:=DataW.trod_int Tryz.underlying27 h3;simp only [List.cons.injEq,and_true] at e0 e1 e2;subst e0 e1 e2;exact ⟨⟨⟨z0,z1,z2,z3,z4,z5,z6,z7,z8⟩,⟨l,ws,ks,vs,cs,o⟩,gs,ps,mv⟩,⟨⟨wa,ka,va,ca,wc,kc,vc,cc⟩,ga,pa,gc,pc⟩,rfl,⟨w1,k1,l1,m1,fun x hx=>u64_wf (w4 x hx)⟩,r1,g1,p1,⟨w2,k2,l2,m2⟩,g2,p2,u64_wf mw,u64_wf ow⟩
end
end Go.Proofs.YtjhpblejlchhjaaGreatDoor
