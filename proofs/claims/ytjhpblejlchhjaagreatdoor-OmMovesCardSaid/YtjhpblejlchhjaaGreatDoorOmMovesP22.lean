/- Merged: TabMake, OmTuJn, OmNw, OmBox. -/
import Derived.Test.YtjhpblejlchhjaaGreatDoorOmMovesP21
import Derived.Test.YtjhpblejlchhjaaGreatDoorOmMovesP20
import Derived.Test.YtjhpblejlchhjaaGreatDoorOmMovesP16
import Derived.Test.YtjhpblejlchhjaaGreatDoorOmMovesP18
import Derived.Test.YtjhpblejlchhjaaGreatDoorOmMovesP12
import Derived.Test.YtjhpblejlchhjaaGreatDoorOmMovesP19
import Derived.Test.YtjhpblejlchhjaaGreatDoorOmMovesP7
namespace Go.Proofs.YtjhpblejlchhjaaGreatDoor
set_option maxRecDepth 100000
set_option maxHeartbeats 40000000
set_option linter.unusedVariables false
set_option linter.unusedSimpArgs false
section
open Go.RowKit Go.Shelf
attribute [local go_sem] Oper.semAt_some
theorem Make_ok (ga aa:Option Addr) (gc ac:Nat) (gs ps:List Int) (at_:Int) (w:World) (hg:IsInts w ga gs) (hp:IsInts w aa ps) (hlg:gs.length≤1000000000) (hla:ps.length≤1000000000):
    Calls Tryz.prog 58 #[tabV ga gs.length gc aa ps.length ac,.int .i64 at_] w (MakeR w gs ps at_):=by
 have HG:=hid hg;have HP:=hid hp;have HC:=hid (fun w' (hb:Below w.heap.size w w')=>Check_ok ga aa gc ac gs ps w' (HG.out.below hb) (HP.out.below hb) hlg hla);by_cases hm:may gs ps=true
 · obtain ⟨h1,h2⟩:=may_len hm;rw [mayE_yes hm] at HC;by_cases ht:at_<0
   · rw [makeR_neg hm ht];clear hg hp hm h1;refine calls_of_wp_m Tryz.func58 rfl ?_;simp only [Tryz.ntmps58,List.size_toArray,List.length_cons,List.length_nil,Nat.reduceAdd,Nat.reduceSub,Array.replicate_succ,Array.replicate_zero,List.push_toArray,List.append_toArray,List.nil_append,List.cons_append];go_wp2_with fail
     go_step3
     go_wp2_with fail
     refine (HC.out _ xbel).mono ?_;rintro e w1 ⟨rfl,hb1⟩;have hz_w1:=hb1.size;try simp only [World.size_alloc,World.size_setCell] at hz_w1
     have c_r0:w1.cell? ⟨w.heap.size+1,0,none⟩=some (.slice none 0 0):=xjt hb1 xlt xcn;have f_r0:w1.frozen? ⟨w.heap.size+1,0,none⟩=false:=xft hb1 xlt xcn;have c_r1:w1.cell? ⟨w.heap.size+1,1,none⟩=some (.slice none 0 0):=xjt hb1 xlt xcn;have f_r1:w1.frozen? ⟨w.heap.size+1,1,none⟩=false:=xft hb1 xlt xcn;have z_r:w.heap.size+1<w1.heap.size:=xo;have c_q0:w1.cell? ⟨w.heap.size+1+1,0,none⟩=some (.int .i64 0):=xjt hb1 xlt xcn;have f_q0:w1.frozen? ⟨w.heap.size+1+1,0,none⟩=false:=xft hb1 xlt xcn;have c_q1:w1.cell? ⟨w.heap.size+1+1,1,none⟩=some (.int .i64 0):=xjt hb1 xlt xcn;have f_q1:w1.frozen? ⟨w.heap.size+1+1,1,none⟩=false:=xft hb1 xlt xcn;have z_q:w.heap.size+1+1<w1.heap.size:=xo;have hB:Below w.heap.size w w1:=xbel;go_wp2
     obtain ⟨k0,k1,k2,k3⟩:=box22_stored (x:= .slice none 0 0) (y:= .slice none 0 0) (z:= .int .i64 0) (t:= .int .i64 0) c_r0 c_r1 c_q0 c_q1 xo;exact postM_none (results_cct rfl rfl rfl (run_loadVar_two Tryz.underlying31 rfl xk k0 k1) (run_loadVar_two Tryz.underlying35 rfl xk k2 k3)) (MakeRes.err xbel)
   · have HT:=hid (fun w' (hb:Below w.heap.size w w')=>Twin_ok ga aa gc ac gs ps w' (HG.out.below hb) (HP.out.below hb) xo xo);have HMay:=hid hm;have H1:=hid h1;rw [h1] at HC HT ⊢;clear hg hp hm hlg hla h1;refine calls_of_wp_m Tryz.func58 rfl ?_;simp only [Tryz.ntmps58,List.size_toArray,List.length_cons,List.length_nil,Nat.reduceAdd,Nat.reduceSub,Array.replicate_succ,Array.replicate_zero,List.push_toArray,List.append_toArray,List.nil_append,List.cons_append];go_wp2_with fail
     go_step3
     go_wp2_with fail
     refine (HC.out _ xbel).mono ?_;rintro e w1 ⟨rfl,hb1⟩;have hz_w1:=hb1.size;try simp only [World.size_alloc,World.size_setCell] at hz_w1
     have c_t0:w1.cell? ⟨w.heap.size,0,none⟩=some (.slice ga gs.length gc):=xjt hb1 xlt xcn;have c_t1:w1.cell? ⟨w.heap.size,1,none⟩=some (.slice aa gs.length ac):=xjt hb1 xlt xcn;have z_t:w.heap.size<w1.heap.size:=xo;have c_r0:w1.cell? ⟨w.heap.size+1,0,none⟩=some (.slice none 0 0):=xjt hb1 xlt xcn;have f_r0:w1.frozen? ⟨w.heap.size+1,0,none⟩=false:=xft hb1 xlt xcn;have c_r1:w1.cell? ⟨w.heap.size+1,1,none⟩=some (.slice none 0 0):=xjt hb1 xlt xcn;have f_r1:w1.frozen? ⟨w.heap.size+1,1,none⟩=false:=xft hb1 xlt xcn;have z_r:w.heap.size+1<w1.heap.size:=xo;have c_q0:w1.cell? ⟨w.heap.size+1+1,0,none⟩=some (.int .i64 0):=xjt hb1 xlt xcn;have f_q0:w1.frozen? ⟨w.heap.size+1+1,0,none⟩=false:=xft hb1 xlt xcn;have c_q1:w1.cell? ⟨w.heap.size+1+1,1,none⟩=some (.int .i64 0):=xjt hb1 xlt xcn;have f_q1:w1.frozen? ⟨w.heap.size+1+1,1,none⟩=false:=xft hb1 xlt xcn;have z_q:w.heap.size+1+1<w1.heap.size:=xo;go_wp2_with fail
     refine (HT.out _ xbel).mono ?_;rintro e w2 ⟨v,u,rfl,hov,hou,hne,hb2⟩;have hz_w2:=hb2.size;replace c_t0:w2.cell? ⟨w.heap.size,0,none⟩=some (.slice ga gs.length gc):=xjt hb2 xlt xcn;replace c_t1:w2.cell? ⟨w.heap.size,1,none⟩=some (.slice aa gs.length ac):=xjt hb2 xlt xcn;replace z_t:w.heap.size<w2.heap.size:=xo;replace c_r0:w2.cell? ⟨w.heap.size+1,0,none⟩=some (.slice none 0 0):=xjt hb2 xlt xcn;replace f_r0:w2.frozen? ⟨w.heap.size+1,0,none⟩=false:=xft hb2 xlt xcn;replace c_r1:w2.cell? ⟨w.heap.size+1,1,none⟩=some (.slice none 0 0):=xjt hb2 xlt xcn;replace f_r1:w2.frozen? ⟨w.heap.size+1,1,none⟩=false:=xft hb2 xlt xcn;replace z_r:w.heap.size+1<w2.heap.size:=xo;replace c_q0:w2.cell? ⟨w.heap.size+1+1,0,none⟩=some (.int .i64 0):=xjt hb2 xlt xcn;replace f_q0:w2.frozen? ⟨w.heap.size+1+1,0,none⟩=false:=xft hb2 xlt xcn;replace c_q1:w2.cell? ⟨w.heap.size+1+1,1,none⟩=some (.int .i64 0):=xjt hb2 xlt xcn;replace f_q1:w2.frozen? ⟨w.heap.size+1+1,1,none⟩=false:=xft hb2 xlt xcn;replace z_q:w.heap.size+1+1<w2.heap.size:=xo;obtain ⟨va,vc,rfl,-,-,-⟩:=ints_of_owns hov;obtain ⟨ua,uc,rfl,-,-,-⟩:=ints_of_owns hou;have hown:=OwnTab.mk' (owns_base hov (base':=w.heap.size+1+1+1) xo) (owns_base hou (base':=w.heap.size+1+1+1) xo) hne;have hB1:Below w.heap.size w w2:=xbel;rw [H1.out];rw [H1.out] at hown;have HO:=hid hown;clear hov hou hne hown hb1 hb2;go_wp2_with fail
     go_step3
     go_wp2_with fail
     refine (numbers_ok _ _ _ _ _ _ _).mono ?_;rintro e w4 ⟨rfl,rfl⟩;go_wp2
     have hI0:MkI w w2.heap.size (w.heap.size+1+1+1) w2.heap.size (.slice va gs.length vc) (.slice ua gs.length uc) gs ps gs.length 0 (((w2.alloc (.cells #[.slice va gs.length vc,.slice ua gs.length uc] 127)).alloc (.cells #[.int .i64 gs.length,.int .i64 0] 35)).alloc (.cells #[.slice ga gs.length gc,.slice aa gs.length ac] 31)):=by
      refine ⟨?_,?_,by (repeat (first|(with_reducible exact Hid.out (by with_reducible assumption))|(with_reducible assumption)|(with_reducible refine OwnTab.other ?_ _ _ ?_)|(with_reducible refine OwnTab.alloc ?_ _)|(with_reducible refine OwnTab.drewN ?_ _)|(with_reducible refine OwnTab.drew ?_)|(left;dsimp only;(first|(with_reducible assumption)|omega|(simp only [szW]<;>omega)|(simp<;>omega)))|(right;dsimp only;(first|(with_reducible assumption)|omega|(simp only [szW]<;>omega)|(simp<;>omega))))),by (exact xbel),by simp⟩
      · refine Boxed.cons ?_ ?_ (Boxed.cons ?_ ?_ (Boxed.cons ?_ ?_ (Boxed.cons ?_ ?_ (Boxed.cons ?_ ?_ (Boxed.cons ?_ ?_ (Boxed.nil _))))));all_goals (exact xcn)
      · refine Boxed.cons ?_ ?_ (Boxed.cons ?_ ?_ (Boxed.nil _));all_goals (exact xcn)
     have HI0:=hid hI0;have h3X:w.heap.size+1+1<w2.heap.size:=xo;clear hI0;refine wp_range_w (xs:=tabRows gs ps) (Kp:=TabKp ga aa gs ps (w2.heap.size+2)) rfl (enters_of Tryz.func143 xk rfl)
       (numbers1_iter ga aa gc ac gs ps H1.out h2 (w2.heap.size+2) _ ?b0 ?b1 ?ig ?ip) br (fun h k=>h.trans k) ?kb ?ps
       (fun k W=>MkI w w2.heap.size (w.heap.size+1+1+1) w2.heap.size (.slice va gs.length vc) (.slice ua gs.length uc) gs ps gs.length 0 W∧∀j,j<k→freeB gs ps j=false)
       (fun c W=>c= .exit 0∧∃k,k<gs.length∧firstF gs ps=some k∧MkI w w2.heap.size (w.heap.size+1+1+1) w2.heap.size (.slice va gs.length vc) (.slice ua gs.length uc) gs ps k (gs.getD k 0) W)
       ?hI ?hIx ?h0 ?round ?done ?stop
     case b0=>(exact xcw)
     case b1=>(exact xcw)
     case ig=>exact HG.out.below xbel
     case ip=>exact HP.out.below xbel
     case kb=>
      intro W l o o' hl ho hc;simp at hl;have hcalm:=Calm.putObj (B:=0) o' (Nat.zero_le _) ho hc;exact ⟨World.putObj_heap_other xo,hcalm.ints,hcalm.ints⟩
     case ps=>
      intro y hy;simp only [tabRows,List.mem_map] at hy;obtain ⟨k,_,rfl⟩:=hy;rfl
     case hI=>exact fun k W W' hi hc=>⟨hi.1.calm hc (by simp;omega),hi.2⟩
     case hIx=>exact fun c W W' ⟨h1,k,h2,h3,h4⟩ hc=>⟨h1,k,h2,h3,h4.calm hc (by simp;omega)⟩
     case h0=>exact ⟨HI0.out,fun j hj=>by omega⟩
     case round=>
      intro l k W hl hk hi;rw [tabRows_length] at hk;rw [tabRows_get hk,tabRow];obtain ⟨x,hx⟩:∃x,gs.getD k 0=x:=⟨_,rfl⟩
      obtain ⟨y,hy⟩:∃y,ps.getD k 0=y:=⟨_,rfl⟩
      have hok:=okAt_facts (may_at HMay.out hk);rw [hx,hy] at hok ⊢;have HX:=hid hx;have HY:=hid hy;have HI:=hid hi;clear hx hy hi;gi_wp2
      have hWb:=HI.out.1.sz;have hab:Below W.heap.size W (W.alloc (.cells #[.int .i64 x,.int .i64 y] 122)):=br.alloc (Nat.le_refl _) _;refine ⟨keeps_below hab,TabKp.below hab hWb,?_⟩;intro W2 hc;have hcx:W2.cell? ⟨W.heap.size,0,none⟩=some (.int .i64 x):=hc.cell xcw;have hcy:W2.cell? ⟨W.heap.size,1,none⟩=some (.int .i64 y):=hc.cell xcw;have hI2:=(HI.out.1.below hab).calm hc (by simp;omega);have HI2:=hid hI2;have hh0:=hI2.hb.cell (w2.heap.size+1) 0 (.int .i64 gs.length) xsi;have hh1:=hI2.hb.cell (w2.heap.size+1) 1 (.int .i64 0) xsi;have hf0:=hI2.hb.frozen (w2.heap.size+1) 0 (.int .i64 gs.length) xsi;have hf1:=hI2.hb.frozen (w2.heap.size+1) 1 (.int .i64 0) xsi;have hsz:=hI2.sz;clear hab hc hI2;by_cases c1:y= -1
      · subst c1;by_cases c2:x<2147483647
        · have HF:=hid (firstF_some hk (by rw [freeB,HY.out,HX.out];simp [c2]) HI.out.2);gi_wp2
          refine ⟨(KeepsOthers.setCell _ _ _).trans (KeepsOthers.setCell _ _ _),rfl,k,hk,HF.out,?_⟩;rw [HX.out];exact HI2.out.set xo (Nat.le_refl _) _ _
        · have HN:Hid (∀j,j<k+1→freeB gs ps j=false):=hid (fun j hj=>by
            by_cases e:j<k
            · exact HI.out.2 j e
            · obtain rfl:j=k:=xo;rw [freeB,HY.out,HX.out];simp [c2])
          gi_wp2
          exact ⟨KeepsOthers.refl _,TabKp.refl,HI2.out,HN.out⟩
      · have c1':(y== -1)=false:=by simpa using c1
        have HN:Hid (∀j,j<k+1→freeB gs ps j=false):=hid (fun j hj=>by
         by_cases e:j<k
         · exact HI.out.2 j e
         · obtain rfl:j=k:=xo;have:¬y<0:=xo;rw [freeB,HY.out,HX.out];simp [this])
        clear c1;gi_wp2
        exact ⟨KeepsOthers.refl _,TabKp.refl,HI2.out,HN.out⟩
     case stop=>
      intro D c W hD hi hK;obtain ⟨rfl,k,hk,hf,hi⟩:=hi;obtain ⟨x,hx⟩:∃x,gs.getD k 0=x:=⟨_,rfl⟩
      rw [hx] at hi;replace c_r0:=hi.box.cell (w.heap.size+1) 0 (.slice none 0 0) xsi;replace c_r1:=hi.box.cell (w.heap.size+1) 1 (.slice none 0 0) xsi;replace f_r0:=hi.box.frozen (w.heap.size+1) 0 (.slice none 0 0) xsi;replace f_r1:=hi.box.frozen (w.heap.size+1) 1 (.slice none 0 0) xsi;replace c_q0:=hi.box.cell (w.heap.size+1+1) 0 (.int .i64 0) xsi;replace c_q1:=hi.box.cell (w.heap.size+1+1) 1 (.int .i64 0) xsi;replace f_q0:=hi.box.frozen (w.heap.size+1+1) 0 (.int .i64 0) xsi;replace f_q1:=hi.box.frozen (w.heap.size+1+1) 1 (.int .i64 0) xsi;have c_x0:=hi.box.cell w2.heap.size 0 (.slice va gs.length vc) xsi;have c_x1:=hi.box.cell w2.heap.size 1 (.slice ua gs.length uc) xsi;have f_x0:=hi.box.frozen w2.heap.size 0 (.slice va gs.length vc) xsi;have f_x1:=hi.box.frozen w2.heap.size 1 (.slice ua gs.length uc) xsi;have hbel:=hi.bel;have hsz:=hi.sz;replace z_r:w.heap.size+1<W.heap.size:=xo;replace z_q:w.heap.size+1+1<W.heap.size:=xo;have z_x:w2.heap.size<W.heap.size:=xo;have z_h:w2.heap.size+1<W.heap.size:=xo;have HO:=hid hi.own;have c_h0:=hi.hb.cell (w2.heap.size+1) 0 (.int .i64 k) xsi;have c_h1:=hi.hb.cell (w2.heap.size+1) 1 (.int .i64 x) xsi;obtain ⟨b,cap,z,hv,hb,hbM,hbz,hz,hcz,hfz,hset⟩:=hi.own.ats (k:=k) (by rw [H1.out];exact hk);rw [H1.out] at hv;cases hv;have HS:=hid (hset at_);have hDb:D≠b:=by simp at hD;omega
      have hD':w2.heap.size+2<D:=by simp at hD;omega
      have HF:=hid hf;have HX:=hid hx;have HK:=hid hK;clear hi hf hx hset hK;go_wp2
      go_quiet (fail)
      go_wp2
      generalize hW3:W.drewN nq=W3;have c_r0:W3.cell? ⟨w.heap.size+1,0,none⟩=some (.slice none 0 0):=by rw [←hW3];(exact xcg)
      have f_r0:W3.frozen? ⟨w.heap.size+1,0,none⟩=false:=by rw [←hW3];(exact xcg)
      have c_r1:W3.cell? ⟨w.heap.size+1,1,none⟩=some (.slice none 0 0):=by rw [←hW3];(exact xcg)
      have f_r1:W3.frozen? ⟨w.heap.size+1,1,none⟩=false:=by rw [←hW3];(exact xcg)
      have z_r:w.heap.size+1<W3.heap.size:=by rw [←hW3];(exact xlt)
      have c_q0:W3.cell? ⟨w.heap.size+1+1,0,none⟩=some (.int .i64 0):=by rw [←hW3];(exact xcg)
      have f_q0:W3.frozen? ⟨w.heap.size+1+1,0,none⟩=false:=by rw [←hW3];(exact xcg)
      have c_q1:W3.cell? ⟨w.heap.size+1+1,1,none⟩=some (.int .i64 0):=by rw [←hW3];(exact xcg)
      have f_q1:W3.frozen? ⟨w.heap.size+1+1,1,none⟩=false:=by rw [←hW3];(exact xcg)
      have z_q:w.heap.size+1+1<W3.heap.size:=by rw [←hW3];(exact xlt)
      have c_x0:W3.cell? ⟨w2.heap.size,0,none⟩=some (.slice va gs.length vc):=by rw [←hW3];(exact xcg)
      have f_x0:W3.frozen? ⟨w2.heap.size,0,none⟩=false:=by rw [←hW3];(exact xcg)
      have c_x1:W3.cell? ⟨w2.heap.size,1,none⟩=some (.slice (some ⟨b,0,none⟩) gs.length uc):=by rw [←hW3];(exact xcg)
      have f_x1:W3.frozen? ⟨w2.heap.size,1,none⟩=false:=by rw [←hW3];(exact xcg)
      have z_x:w2.heap.size<W3.heap.size:=by rw [←hW3];(exact xlt)
      have c_h0:W3.cell? ⟨w2.heap.size+1,0,none⟩=some (.int .i64 k):=by rw [←hW3];(exact xcg)
      have c_h1:W3.cell? ⟨w2.heap.size+1,1,none⟩=some (.int .i64 x):=by rw [←hW3];(exact xcg)
      have z_h:w2.heap.size+1<W3.heap.size:=by rw [←hW3];(exact xlt)
      replace hbel:Below w.heap.size w W3:=by rw [←hW3];(exact xbel)
      replace HS:Hid (OwnTab (w.heap.size+1+1+1) w2.heap.size (W3.setCell ⟨b,k,none⟩ (.int .i64 at_)) (.slice va gs.length vc) (.slice (some ⟨b,0,none⟩) gs.length uc) gs (ps.set k at_)):=by rw [←hW3];exact hid (HS.out.heap fun _ _ _=>rfl)
      replace HK:Hid (W3.heap[D]? =some (.deferred (some []))):=by rw [←hW3];exact HK
      replace hcz:W3.cell? ⟨b,k,none⟩=some (.int .i64 z):=by rw [←hW3];(exact xcg)
      replace hfz:W3.frozen? ⟨b,k,none⟩=false:=by rw [←hW3];(exact xcg)
      clear hW3 hsz HO;go_still_tail 8,xk
      go_wp2
      replace hcz:=World.cell?_setCell_same _ _ (.int .i64 at_) hcz;generalize hW4:(W3.setCell _ _).drew=W4;replace c_r0:W4.cell? ⟨w.heap.size+1,0,none⟩=some (.slice none 0 0):=by rw [←hW4];(exact xcg)
      replace f_r0:W4.frozen? ⟨w.heap.size+1,0,none⟩=false:=by rw [←hW4];(exact xcg)
      replace c_r1:W4.cell? ⟨w.heap.size+1,1,none⟩=some (.slice none 0 0):=by rw [←hW4];(exact xcg)
      replace f_r1:W4.frozen? ⟨w.heap.size+1,1,none⟩=false:=by rw [←hW4];(exact xcg)
      replace z_r:w.heap.size+1<W4.heap.size:=by rw [←hW4];(exact xlt)
      replace c_q0:W4.cell? ⟨w.heap.size+1+1,0,none⟩=some (.int .i64 0):=by rw [←hW4];(exact xcg)
      replace f_q0:W4.frozen? ⟨w.heap.size+1+1,0,none⟩=false:=by rw [←hW4];(exact xcg)
      replace c_q1:W4.cell? ⟨w.heap.size+1+1,1,none⟩=some (.int .i64 0):=by rw [←hW4];(exact xcg)
      replace f_q1:W4.frozen? ⟨w.heap.size+1+1,1,none⟩=false:=by rw [←hW4];(exact xcg)
      replace z_q:w.heap.size+1+1<W4.heap.size:=by rw [←hW4];(exact xlt)
      replace c_x0:W4.cell? ⟨w2.heap.size,0,none⟩=some (.slice va gs.length vc):=by rw [←hW4];(exact xcg)
      replace f_x0:W4.frozen? ⟨w2.heap.size,0,none⟩=false:=by rw [←hW4];(exact xcg)
      replace c_x1:W4.cell? ⟨w2.heap.size,1,none⟩=some (.slice (some ⟨b,0,none⟩) gs.length uc):=by rw [←hW4];(exact xcg)
      replace f_x1:W4.frozen? ⟨w2.heap.size,1,none⟩=false:=by rw [←hW4];(exact xcg)
      replace z_x:w2.heap.size<W4.heap.size:=by rw [←hW4];(exact xlt)
      replace c_h0:W4.cell? ⟨w2.heap.size+1,0,none⟩=some (.int .i64 k):=by rw [←hW4];(exact xcg)
      replace c_h1:W4.cell? ⟨w2.heap.size+1,1,none⟩=some (.int .i64 x):=by rw [←hW4];(exact xcg)
      replace z_h:w2.heap.size+1<W4.heap.size:=by rw [←hW4];(exact xlt)
      replace hbel:Below w.heap.size w W4:=by rw [←hW4];(exact xbel)
      replace HS:Hid (OwnTab (w.heap.size+1+1+1) w2.heap.size W4 (.slice va gs.length vc) (.slice (some ⟨b,0,none⟩) gs.length uc) gs (ps.set k at_)):=by rw [←hW4];exact hid HS.out.drew
      replace HK:Hid (W4.heap[D]? =some (.deferred (some []))):=by
       rw [←hW4];exact hid ((heap_setCell_ne W3 ⟨b,k,none⟩ (.int .i64 at_) hDb).trans HK.out)
      clear hW4 hcz hfz;go_region
      go_wp2
      obtain ⟨k0,k1,k2,k3⟩:=box22_stored (x:= .slice va gs.length vc) (y:= .slice (some ⟨b,0,none⟩) gs.length uc) (z:= .int .i64 k) (t:= .int .i64 x) c_r0 c_r1 c_q0 c_q1 xo;have hK':((((W4.setCell ⟨w.heap.size+1,0,none⟩ (.slice va gs.length vc)).setCell ⟨w.heap.size+1,1,none⟩ (.slice (some ⟨b,0,none⟩) gs.length uc)).setCell ⟨w.heap.size+1+1,0,none⟩ (.int .i64 k)).setCell ⟨w.heap.size+1+1,1,none⟩ (.int .i64 x)).heap[D]? =some (.deferred (some [])):=by
       rw [heap_setCell_ne _ _ _ xdo,heap_setCell_ne _ _ _ xdo,heap_setCell_ne _ _ _ xdo,heap_setCell_ne _ _ _ xdo];exact HK.out
      rw [Exit.noGoto_ret];generalize hWf:((((W4.setCell _ _).setCell _ _).setCell _ _).setCell _ _).drew=Wf;replace c_r0:Wf.cell? ⟨w.heap.size+1,0,none⟩=some (.slice va gs.length vc):=by rw [←hWf];(exact xcg)
      replace f_r0:Wf.frozen? ⟨w.heap.size+1,0,none⟩=false:=by rw [←hWf];(exact xcg)
      replace c_r1:Wf.cell? ⟨w.heap.size+1,1,none⟩=some (.slice (some ⟨b,0,none⟩) gs.length uc):=by rw [←hWf];(exact xcg)
      replace f_r1:Wf.frozen? ⟨w.heap.size+1,1,none⟩=false:=by rw [←hWf];(exact xcg)
      replace z_r:w.heap.size+1<Wf.heap.size:=by rw [←hWf];(exact xlt)
      replace c_q0:Wf.cell? ⟨w.heap.size+1+1,0,none⟩=some (.int .i64 k):=by rw [←hWf];(exact xcg)
      replace f_q0:Wf.frozen? ⟨w.heap.size+1+1,0,none⟩=false:=by rw [←hWf];(exact xcg)
      replace c_q1:Wf.cell? ⟨w.heap.size+1+1,1,none⟩=some (.int .i64 x):=by rw [←hWf];(exact xcg)
      replace f_q1:Wf.frozen? ⟨w.heap.size+1+1,1,none⟩=false:=by rw [←hWf];(exact xcg)
      replace z_q:w.heap.size+1+1<Wf.heap.size:=by rw [←hWf];(exact xlt)
      replace hbel:Below w.heap.size w Wf:=by rw [←hWf];(exact xbel)
      replace HS:Hid (OwnTab (w.heap.size+1+1+1) w2.heap.size Wf (.slice va gs.length vc) (.slice (some ⟨b,0,none⟩) gs.length uc) gs (ps.set k at_)):=by rw [←hWf];exact hid (by (repeat (first|(with_reducible exact Hid.out (by with_reducible assumption))|(with_reducible assumption)|(with_reducible refine OwnTab.other ?_ _ _ ?_)|(with_reducible refine OwnTab.alloc ?_ _)|(with_reducible refine OwnTab.drewN ?_ _)|(with_reducible refine OwnTab.drew ?_)|(left;dsimp only;(first|(with_reducible assumption)|omega|(simp only [szW]<;>omega)|(simp<;>omega)))|(right;dsimp only;(first|(with_reducible assumption)|omega|(simp only [szW]<;>omega)|(simp<;>omega))))))
      replace hK':Wf.heap[D]? =some (.deferred (some [])):=by rw [←hWf];exact hK'
      clear hWf k0 k1 k2 k3;have hcalm:=Calm.putObj (B:=w.heap.size) (.deferred none) xo hK' rfl;refine postM_one hK' (results_cct rfl rfl rfl (run_loadVar_two Tryz.underlying31 rfl xk (hcalm.cell c_r0) (hcalm.cell c_r1)) (run_loadVar_two Tryz.underlying35 rfl xk (hcalm.cell c_q0) (hcalm.cell c_q1))) ?_;rw [makeR_old HMay.out ht HF.out,HX.out];exact MakeRes.of (HS.out.calm hcalm) xo (hcalm.below (Nat.le_refl _) hbel)
     case done=>
      intro D W hD hi hK;obtain ⟨hi,hno⟩:=hi;rw [tabRows_length] at hno;have HF:=hid (firstF_none hno);replace c_r0:=hi.box.cell (w.heap.size+1) 0 (.slice none 0 0) xsi;replace c_r1:=hi.box.cell (w.heap.size+1) 1 (.slice none 0 0) xsi;replace f_r0:=hi.box.frozen (w.heap.size+1) 0 (.slice none 0 0) xsi;replace f_r1:=hi.box.frozen (w.heap.size+1) 1 (.slice none 0 0) xsi;replace c_q0:=hi.box.cell (w.heap.size+1+1) 0 (.int .i64 0) xsi;replace c_q1:=hi.box.cell (w.heap.size+1+1) 1 (.int .i64 0) xsi;replace f_q0:=hi.box.frozen (w.heap.size+1+1) 0 (.int .i64 0) xsi;replace f_q1:=hi.box.frozen (w.heap.size+1+1) 1 (.int .i64 0) xsi;have c_x0:=hi.box.cell w2.heap.size 0 (.slice va gs.length vc) xsi;have c_x1:=hi.box.cell w2.heap.size 1 (.slice ua gs.length uc) xsi;have f_x0:=hi.box.frozen w2.heap.size 0 (.slice va gs.length vc) xsi;have f_x1:=hi.box.frozen w2.heap.size 1 (.slice ua gs.length uc) xsi;have hbel:=hi.bel;have hsz:=hi.sz;replace z_r:w.heap.size+1<W.heap.size:=xo;replace z_q:w.heap.size+1+1<W.heap.size:=xo;have z_x:w2.heap.size<W.heap.size:=xo;have z_h:w2.heap.size+1<W.heap.size:=xo;have HO:=hid hi.own;have c_h0:=hi.hb.cell (w2.heap.size+1) 0 (.int .i64 gs.length) xsi;have c_h1:=hi.hb.cell (w2.heap.size+1) 1 (.int .i64 0) xsi;have f_h0:=hi.hb.frozen (w2.heap.size+1) 0 (.int .i64 gs.length) xsi;have f_h1:=hi.hb.frozen (w2.heap.size+1) 1 (.int .i64 0) xsi;have hD':w2.heap.size+2<D:=by simp at hD;omega
      have HK:=hid hK;clear hi hK hno;go_wp2
      go_quiet (fail)
      generalize hW3:W.drewN nq=W3;have c_r0:W3.cell? ⟨w.heap.size+1,0,none⟩=some (.slice none 0 0):=by rw [←hW3];(exact xcg)
      have f_r0:W3.frozen? ⟨w.heap.size+1,0,none⟩=false:=by rw [←hW3];(exact xcg)
      have c_r1:W3.cell? ⟨w.heap.size+1,1,none⟩=some (.slice none 0 0):=by rw [←hW3];(exact xcg)
      have f_r1:W3.frozen? ⟨w.heap.size+1,1,none⟩=false:=by rw [←hW3];(exact xcg)
      have z_r:w.heap.size+1<W3.heap.size:=by rw [←hW3];(exact xlt)
      have c_q0:W3.cell? ⟨w.heap.size+1+1,0,none⟩=some (.int .i64 0):=by rw [←hW3];(exact xcg)
      have f_q0:W3.frozen? ⟨w.heap.size+1+1,0,none⟩=false:=by rw [←hW3];(exact xcg)
      have c_q1:W3.cell? ⟨w.heap.size+1+1,1,none⟩=some (.int .i64 0):=by rw [←hW3];(exact xcg)
      have f_q1:W3.frozen? ⟨w.heap.size+1+1,1,none⟩=false:=by rw [←hW3];(exact xcg)
      have z_q:w.heap.size+1+1<W3.heap.size:=by rw [←hW3];(exact xlt)
      have c_x0:W3.cell? ⟨w2.heap.size,0,none⟩=some (.slice va gs.length vc):=by rw [←hW3];(exact xcg)
      have f_x0:W3.frozen? ⟨w2.heap.size,0,none⟩=false:=by rw [←hW3];(exact xcg)
      have c_x1:W3.cell? ⟨w2.heap.size,1,none⟩=some (.slice ua gs.length uc):=by rw [←hW3];(exact xcg)
      have f_x1:W3.frozen? ⟨w2.heap.size,1,none⟩=false:=by rw [←hW3];(exact xcg)
      have z_x:w2.heap.size<W3.heap.size:=by rw [←hW3];(exact xlt)
      have c_h0:W3.cell? ⟨w2.heap.size+1,0,none⟩=some (.int .i64 gs.length):=by rw [←hW3];(exact xcg)
      have f_h0:W3.frozen? ⟨w2.heap.size+1,0,none⟩=false:=by rw [←hW3];(exact xcg)
      have c_h1:W3.cell? ⟨w2.heap.size+1,1,none⟩=some (.int .i64 0):=by rw [←hW3];(exact xcg)
      have f_h1:W3.frozen? ⟨w2.heap.size+1,1,none⟩=false:=by rw [←hW3];(exact xcg)
      have z_h:w2.heap.size+1<W3.heap.size:=by rw [←hW3];(exact xlt)
      replace hbel:Below w.heap.size w W3:=by rw [←hW3];(exact xbel)
      replace HO:Hid (OwnTab (w.heap.size+1+1+1) w2.heap.size W3 (.slice va gs.length vc) (.slice ua gs.length uc) gs ps):=by rw [←hW3];exact hid (HO.out.heap fun _ _ _=>rfl)
      replace HK:Hid (W3.heap[D]? =some (.deferred (some []))):=by rw [←hW3];exact HK
      have hDW:D<W3.heap.size:=by
       have:=HK.out;exact (Array.getElem?_eq_some_iff.1 this).1
      clear hW3 hsz;by_cases h5:gs.length=65536
      · have e5:((gs.length:Int)==65536)=true:=by simp [h5]
        have H5:=hid h5;clear h5;go_wp2
        rw [Exit.noGoto_ret];obtain ⟨k0,k1,k2,k3⟩:=box22_stored (x:= .slice none 0 0) (y:= .slice none 0 0) (z:= .int .i64 0) (t:= .int .i64 0) c_r0 c_r1 c_q0 c_q1 xo;have hK':((((W3.setCell ⟨w.heap.size+1,0,none⟩ (.slice none 0 0)).setCell ⟨w.heap.size+1,1,none⟩ (.slice none 0 0)).setCell ⟨w.heap.size+1+1,0,none⟩ (.int .i64 0)).setCell ⟨w.heap.size+1+1,1,none⟩ (.int .i64 0)).heap[D]? =some (.deferred (some [])):=by
         rw [heap_setCell_ne _ _ _ xdo,heap_setCell_ne _ _ _ xdo,heap_setCell_ne _ _ _ xdo,heap_setCell_ne _ _ _ xdo];exact HK.out
        have hbf:Below w.heap.size w ((((W3.setCell ⟨w.heap.size+1,0,none⟩ (.slice none 0 0)).setCell ⟨w.heap.size+1,1,none⟩ (.slice none 0 0)).setCell ⟨w.heap.size+1+1,0,none⟩ (.int .i64 0)).setCell ⟨w.heap.size+1+1,1,none⟩ (.int .i64 0)):=xbel;have hcalm:=Calm.putObj (B:=w.heap.size) (.deferred none) xo hK' rfl;refine postM_one hK' (results_cct rfl rfl rfl (run_loadVar_two Tryz.underlying31 rfl xk (hcalm.cell k0) (hcalm.cell k1)) (run_loadVar_two Tryz.underlying35 rfl xk (hcalm.cell k2) (hcalm.cell k3))) ?_;rw [makeR_full HMay.out ht HF.out H5.out];exact MakeRes.err (hcalm.below (Nat.le_refl _) hbf)
      · have e5:((gs.length:Int)==65536)=false:=by simp;omega
        have h6:gs.length<65536:=xo;have H5:=hid h5;have hlp:ps.length<65536:=by rw [H1.out];exact h6
        have HVR:=hid (fun k (hk:(Value.slice va gs.length vc).ownBlock=some k)=>And.intro (HO.out.g.lt k hk).1 (HO.out.gm k hk));have HUR:=hid (fun k (hk:(Value.slice ua gs.length uc).ownBlock=some k)=>And.intro (HO.out.p.lt k hk).1 (HO.out.pm k hk));obtain ⟨gs2,hgs2⟩:∃l,gs++[0]=l:=⟨_,rfl⟩
        obtain ⟨ps2,hps2⟩:∃l,ps++[at_]=l:=⟨_,rfl⟩
        have HGS:=hid hgs2;have HPS:=hid hps2;have HJ:Hid (MkJ w w2.heap.size (w.heap.size+1+1+1) w2.heap.size D (.slice va gs.length vc) (.slice ua gs.length uc) (.slice va gs.length vc) (.slice ua gs.length uc) gs ps gs.length 0 W3):=
          hid ⟨Boxed.cons c_r0 f_r0 (Boxed.cons c_r1 f_r1 (Boxed.cons c_q0 f_q0 (Boxed.cons c_q1 f_q1 (Boxed.cons c_h0 f_h0 (Boxed.cons c_h1 f_h1 (Boxed.nil _)))))),Boxed.cons c_x0 f_x0 (Boxed.cons c_x1 f_x1 (Boxed.nil _)),HO.out,hbel,HK.out,z_h⟩
        clear hgs2 hps2 h5;go_wp2
        have hDX:w2.heap.size<W3.heap.size:=z_x;clear c_r0 f_r0 c_r1 f_r1 c_q0 f_q0 c_q1 f_q1 c_h0 f_h0 c_h1 f_h1 z_r z_q z_h z_x HK HO hbel;refine Code.wp_mono ?_ (make_region h6 hlp xo xo HGS HPS HVR HUR HJ);intro e a' w' hq;cases e with
        | normal=>
         obtain ⟨⟨va2,ua2,vc2,uc2,MM,hJ⟩,u,rfl⟩:=hq;have HJ2:=hid hJ;have c_r0:=hJ.box.cell (w.heap.size+1) 0 (.slice none 0 0) xsi;have c_r1:=hJ.box.cell (w.heap.size+1) 1 (.slice none 0 0) xsi;have f_r0:=hJ.box.frozen (w.heap.size+1) 0 (.slice none 0 0) xsi;have f_r1:=hJ.box.frozen (w.heap.size+1) 1 (.slice none 0 0) xsi;have c_q0:=hJ.box.cell (w.heap.size+1+1) 0 (.int .i64 0) xsi;have c_q1:=hJ.box.cell (w.heap.size+1+1) 1 (.int .i64 0) xsi;have f_q0:=hJ.box.frozen (w.heap.size+1+1) 0 (.int .i64 0) xsi;have f_q1:=hJ.box.frozen (w.heap.size+1+1) 1 (.int .i64 0) xsi;have c_h0:=hJ.box.cell (w2.heap.size+1) 0 (.int .i64 gs.length) xsi;have c_h1:=hJ.box.cell (w2.heap.size+1) 1 (.int .i64 0) xsi;have c_x0:=hJ.xb.cell w2.heap.size 0 (.slice va2 gs2.length vc2) xsi;have c_x1:=hJ.xb.cell w2.heap.size 1 (.slice ua2 ps2.length uc2) xsi;have hdk:Hid (w'.heap[D]? =some (.deferred (some []))):=hid hJ.dk;have hJown:=hid hJ.own;have hJbel:=hid hJ.bel;have hwz:=hJ.sz;clear hJ HJ2 HJ HO HI0;go_wp2
         go_region
         go_wp2
         rw [Exit.noGoto_ret];obtain ⟨k0,k1,k2,k3⟩:=box22_stored (x:= .slice va2 gs2.length vc2) (y:= .slice ua2 ps2.length uc2) (z:= .int .i64 gs.length) (t:= .int .i64 0) c_r0 c_r1 c_q0 c_q1 xo;have hK':((((w'.setCell ⟨w.heap.size+1,0,none⟩ (.slice va2 gs2.length vc2)).setCell ⟨w.heap.size+1,1,none⟩ (.slice ua2 ps2.length uc2)).setCell ⟨w.heap.size+1+1,0,none⟩ (.int .i64 gs.length)).setCell ⟨w.heap.size+1+1,1,none⟩ (.int .i64 0)).heap[D]? =some (.deferred (some [])):=by
          rw [heap_setCell_ne _ _ _ xdo,heap_setCell_ne _ _ _ xdo,heap_setCell_ne _ _ _ xdo,heap_setCell_ne _ _ _ xdo];exact hdk.out
         have z_r:w.heap.size+1<w'.heap.size:=xo;have z_q:w.heap.size+1+1<w'.heap.size:=xo;generalize hWf:((((w'.setCell _ _).setCell _ _).setCell _ _).setCell _ _).drew=Wf;have c_r0:Wf.cell? ⟨w.heap.size+1,0,none⟩=some (.slice va2 gs2.length vc2):=by rw [←hWf];(exact xcg)
         have c_r1:Wf.cell? ⟨w.heap.size+1,1,none⟩=some (.slice ua2 ps2.length uc2):=by rw [←hWf];(exact xcg)
         have z_r:w.heap.size+1<Wf.heap.size:=by rw [←hWf];(exact xlt)
         have c_q0:Wf.cell? ⟨w.heap.size+1+1,0,none⟩=some (.int .i64 gs.length):=by rw [←hWf];(exact xcg)
         have c_q1:Wf.cell? ⟨w.heap.size+1+1,1,none⟩=some (.int .i64 0):=by rw [←hWf];(exact xcg)
         have z_q:w.heap.size+1+1<Wf.heap.size:=by rw [←hWf];(exact xlt)
         have hbel3:Below w.heap.size w Wf:=by rw [←hWf];(exact xbel)
         have HS3:OwnTab (w.heap.size+1+1+1) MM Wf (.slice va2 gs2.length vc2) (.slice ua2 ps2.length uc2) gs2 ps2:=by rw [←hWf];(repeat (first|(with_reducible exact Hid.out (by with_reducible assumption))|(with_reducible assumption)|(with_reducible refine OwnTab.other ?_ _ _ ?_)|(with_reducible refine OwnTab.alloc ?_ _)|(with_reducible refine OwnTab.drewN ?_ _)|(with_reducible refine OwnTab.drew ?_)|(left;dsimp only;(first|(with_reducible assumption)|omega|(simp only [szW]<;>omega)|(simp<;>omega)))|(right;dsimp only;(first|(with_reducible assumption)|omega|(simp only [szW]<;>omega)|(simp<;>omega)))))
         replace hK':Wf.heap[D]? =some (.deferred (some [])):=by rw [←hWf];exact hK'
         clear hWf k0 k1 k2 k3;have hcalm:=Calm.putObj (B:=w.heap.size) (.deferred none) xo hK' rfl;refine postM_one hK' (results_cct rfl rfl rfl (run_loadVar_two Tryz.underlying31 rfl xk (hcalm.cell c_r0) (hcalm.cell c_r1)) (run_loadVar_two Tryz.underlying35 rfl xk (hcalm.cell c_q0) (hcalm.cell c_q1))) ?_;rw [makeR_new HMay.out ht HF.out H5.out,HGS.out,HPS.out];exact MakeRes.of (HS3.calm hcalm) xo (hcalm.below (Nat.le_refl _) hbel3)
        | ret=>exact hq.elim
        | exit id=>exact hq.elim
        | goto t=>exact hq.elim
        | panic ch=>exact hq.elim
        | outgrown=>exact hq.elim
 · have hm':may gs ps=false:=by simpa using hm
   rw [mayE_no hm'] at HC;rw [makeR_bad hm'];clear hg hp hm hm';refine calls_of_wp_m Tryz.func58 rfl ?_;simp only [Tryz.ntmps58,List.size_toArray,List.length_cons,List.length_nil,Nat.reduceAdd,Nat.reduceSub,Array.replicate_succ,Array.replicate_zero,List.push_toArray,List.append_toArray,List.nil_append,List.cons_append];go_wp2_with fail
   go_step3
   go_wp2_with fail
   refine (HC.out _ xbel).mono ?_;rintro e w1 ⟨rfl,hb1⟩;have hz_w1:=hb1.size;try simp only [World.size_alloc,World.size_setCell] at hz_w1
   have c_r0:w1.cell? ⟨w.heap.size+1,0,none⟩=some (.slice none 0 0):=xjt hb1 xlt xcn;have f_r0:w1.frozen? ⟨w.heap.size+1,0,none⟩=false:=xft hb1 xlt xcn;have c_r1:w1.cell? ⟨w.heap.size+1,1,none⟩=some (.slice none 0 0):=xjt hb1 xlt xcn;have f_r1:w1.frozen? ⟨w.heap.size+1,1,none⟩=false:=xft hb1 xlt xcn;have z_r:w.heap.size+1<w1.heap.size:=xo;have c_q0:w1.cell? ⟨w.heap.size+1+1,0,none⟩=some (.int .i64 0):=xjt hb1 xlt xcn;have f_q0:w1.frozen? ⟨w.heap.size+1+1,0,none⟩=false:=xft hb1 xlt xcn;have c_q1:w1.cell? ⟨w.heap.size+1+1,1,none⟩=some (.int .i64 0):=xjt hb1 xlt xcn;have f_q1:w1.frozen? ⟨w.heap.size+1+1,1,none⟩=false:=xft hb1 xlt xcn;have z_q:w.heap.size+1+1<w1.heap.size:=xo;have hB:Below w.heap.size w w1:=xbel;go_wp2
   obtain ⟨k0,k1,k2,k3⟩:=box22_stored (x:= .slice none 0 0) (y:= .slice none 0 0) (z:= .int .i64 0) (t:= .int .i64 0) c_r0 c_r1 c_q0 c_q1 xo;exact postM_none (results_cct rfl rfl rfl (run_loadVar_two Tryz.underlying31 rfl xk k0 k1) (run_loadVar_two Tryz.underlying35 rfl xk k2 k3)) (MakeRes.err xbel)
end
section
open Go.RowKit Go.Shelf Go.Sort
def inQ (c:Cfg) (s:SlC) (gs ps:List Int) (e1:Int):Int:=if omE c s gs ps=0 then (if e1=0 then inE c s gs ps else e1) else omE c s gs ps
def inR (c:Cfg) (s:SlC) (gs ps:List Int) (mv e:Int) (k:Nat):OmR:=if e=0 then ⟨c,inS c s gs ps k,makeG gs ps 0,(inX c s gs ps mv k).1,(inX c s gs ps mv k).2⟩ else nilR
def inN (gs ps:List Int) (e:Int):Int:=if e=0 then makeN gs ps 0 else 0
def inK (gs ps:List Int) (e:Int):Int:=if e=0 then makeK gs ps 0 else 0
def outR (c:Cfg) (s:SlC) (gs ps:List Int) (mv n g:Int):OmR:=if outE c s gs ps n g=0 then ⟨c,outS c s ps n,dropG gs ps n g,(outX c s gs ps mv n g).1,(outX c s gs ps mv n g).2⟩ else nilR
theorem fst_inQ (c:Cfg) (s:SlC) (gs ps:List Int):inQ c s gs ps 0=fstE c s gs ps:=by rw [inQ,if_pos rfl,fstE]
def isE (gs ps:List Int) (n g:Int):Int:=if isH gs ps n g=true then 0 else 140
theorem bsd_inQ (c:Cfg) (s:SlC) (gs ps:List Int) (n g:Int):inQ c s gs ps (isE gs ps n g)=bsdE c s gs ps n g:=by
 rw [inQ,bsdE,isE];cases isH gs ps n g<;>simp
theorem in_sizes {c:Cfg} {s:SlC} {gs ps:List Int} (hu:U64s s.ws) (h:omE c s gs ps=0) (he:inE c s gs ps=0) {k:Nat} (hk:k≤manyC s):InN (inS c s gs ps k) (makeG gs ps 0) (makeP gs ps 0):=by
 have u:=(put_nums c s hu k (makeN gs ps 0,0)).2.2.2.2;have hz:=in_zero he;have ml:=make_len (omE_zero h).2.1 hz.1;have nn:=om_nums (in_prs hu h he hk).2.1 u;exact ⟨nn.1,nn.2.2.1,nn.2.1,nn.2.2.2,by omega,fun j hj hb=>⟨(in_keys hu h he hk hj hb).1,(in_keys hu h he hk hj hb).2.1⟩,u,by omega,ml.2.2.1⟩
theorem out_sizes {c:Cfg} {s:SlC} {gs ps:List Int} (hu:U64s s.ws) {n g:Int} (h:omE c s gs ps=0) (hi:isH gs ps n g=true):InN (outS c s ps n) (dropG gs ps n g) (dropP gs ps n g):=by
 have u:=(take_nums c s hu (rnkH s ps n)).2.2.2.2;have hm:=(omE_zero h).2.1;have ml:=drop_len hm hi;have nn:=om_nums (out_prs hu h hi).2.1 u;have mm:=may_len hm;have ih:=isH_facts hi;exact ⟨nn.1,nn.2.2.1,nn.2.1,nn.2.2.2,by omega,fun j hj hb=>⟨(out_keys hu h hi hj hb).1,(out_keys hu h hi hj hb).2.1⟩,u,by omega,by omega⟩
theorem rank_ok (c:Cfg) (s:SlC) (sa:SlA) (gs ps:List Int) (mv:Int) (ga pa:Option Addr) (gc pc:Nat) (hl:s.ws.length≤1000000000000) (hl2:s.ks.length≤1000000000000) (hlg:gs.length≤1000000000) (hlp:ps.length≤1000000000) (hcc:s.cs.length≤sa.cc) (b:Nat) (n g:Int) (w:World) (hin:SlIn w s sa) (hg:IsRow .i64 w ga gs) (hp:IsRow .i64 w pa ps) (hT:TabAt w) (h:omE c s gs ps=0) (hX:BX w b 76 [.int .u8 c.tag,.int .i64 c.most,.int .i64 c.seg,.int .i64 c.least,.int .i64 c.den,.int .i64 c.ll,.int .i64 c.rl,.int .i64 c.rh,.int .i64 c.lh,.int .i64 s.seg,.slice sa.wa s.ws.length sa.wc,.slice sa.ka s.ks.length sa.kc,.slice sa.va s.vs.length sa.vc,.slice sa.ca s.cs.length sa.cc,.int .u64 s.laid,.slice ga gs.length gc,.slice pa ps.length pc,.int .u64 mv]):
    Calls Tryz.prog 38 #[.pointer (some ⟨b,0,none⟩),.agg #[.int .i64 n,.int .i64 g]] w (AnsB w (.tuple #[.int .i64 (if isH gs ps n g=true then (rnkH s ps n:Int) else 0),.int .i64 (isE gs ps n g)])):=by
 obtain ⟨hg0,hm,hk⟩:=omE_zero h;have FN:=fun W (hb:Below w.heap.size w W)=>Find_ok ga pa gc pc gs ps n g W (hg.below hb) (hp.below hb) hlg hlp
 unfold FindR tfindV tfindE at FN;cases hi:isH gs ps n g with
 | false=>
  rw [hi] at FN;simp only [hm,Bool.false_eq_true,and_false,if_false,if_true] at FN;rw [isE,hi,if_neg xdd,if_neg xdd];exact rank_err c s sa gs ps mv ga pa gc pc b n g 0 140 xdd w hX (hid FN)
 | true=>
  rw [hi] at FN;simp only [hm,and_self,if_true] at FN;rw [isE,hi,if_pos rfl,if_pos rfl];obtain ⟨hcm,a,H,kn,-⟩:=gap_zero hg0;have nn:=om_nums hg0 hin.u;rcases idx_lab hm hk n g with ⟨e,-⟩ | ⟨k,-,-,hkl,hpl⟩
  · rw [hi] at e;cases e
  obtain ⟨-,-,hlt⟩:=pls_rank hkl;have hx:((ps.getD n.toNat 0).toNat:Int)=ps.getD n.toNat 0:=Int.toNat_of_nonneg xo;refine rank_in c s sa gs ps mv ga pa gc pc b n g (ps.getD n.toNat 0) (rnkH s ps n) w hX (hid FN) (hid fun W hb=> ?_);have:=Count_ok sa.wa sa.wc s.ws hin.u s.ks.length 0 (ps.getD n.toNat 0).toNat nn.1 hl (may_w kn) (Nat.zero_le _) xo W (hin.w.below hb);rw [hx] at this;exact this
theorem in_all (c:Cfg) (s:SlC) (sa:SlA) (gs ps:List Int) (mv:Int) (ga pa:Option Addr) (gc pc:Nat) (hl:s.ws.length≤1000000000000) (hl2:s.ks.length≤1000000000000) (hlg:gs.length≤1000000000) (hlp:ps.length≤1000000000) (hcc:s.cs.length≤sa.cc) (fid:FuncId) (caps:Array Value) (k:Nat) (k1 e1:Int) (w:World) (hin:SlIn w s sa) (hg:IsRow .i64 w ga gs) (hp:IsRow .i64 w pa ps) (hT:TabAt w)
    (eg:∀(args:Array Value) (w:World),(callFunc fid args).run Tryz.prog w= .ok (.enter fid args) w) (hk:omE c s gs ps=0→e1=0→k≤manyC s) (hk1:e1=0→k1=k)
    (WH:omE c s gs ps=0→∀(W:World) (b:Nat),BX W b 76 [.int .u8 c.tag,.int .i64 c.most,.int .i64 c.seg,.int .i64 c.least,.int .i64 c.den,.int .i64 c.ll,.int .i64 c.rl,.int .i64 c.rh,.int .i64 c.lh,.int .i64 s.seg,.slice sa.wa s.ws.length sa.wc,.slice sa.ka s.ks.length sa.kc,.slice sa.va s.vs.length sa.vc,.slice sa.ca s.cs.length sa.cc,.int .u64 s.laid,.slice ga gs.length gc,.slice pa ps.length pc,.int .u64 mv]→Below w.heap.size w W→Calls Tryz.prog fid (#[.pointer (some ⟨b,0,none⟩)]++caps) W (AnsB W (.tuple #[.int .i64 k1,.int .i64 e1]))):
    Calls Tryz.prog 33 #[.agg #[.int .u8 c.tag,.int .i64 c.most,.int .i64 c.seg,.int .i64 c.least,.int .i64 c.den,.int .i64 c.ll,.int .i64 c.rl,.int .i64 c.rh,.int .i64 c.lh,.int .i64 s.seg,.slice sa.wa s.ws.length sa.wc,.slice sa.ka s.ks.length sa.kc,.slice sa.va s.vs.length sa.vc,.slice sa.ca s.cs.length sa.cc,.int .u64 s.laid,.slice ga gs.length gc,.slice pa ps.length pc,.int .u64 mv],.func (.func fid) #[] caps] w (FreshR w (inR c s gs ps mv (inQ c s gs ps e1) k) (inN gs ps (inQ c s gs ps e1)) (inK gs ps (inQ c s gs ps e1)) (inQ c s gs ps e1)):=by
 have hR:∀e,e≠0→inR c s gs ps mv e k=nilR∧inN gs ps e=0∧inK gs ps e=0:=fun e h=>⟨if_neg h,if_neg h,if_neg h⟩
 have hM:omE c s gs ps=0→makeE gs ps 0=if makeOk gs ps 0=true then 0 else 9:=fun h=>by rw [makeE,if_pos (omE_zero h).2.1,if_neg xdd]
 have hP:omE c s gs ps=0→e1=0→putE c s k=if (manyC s:Int)=c.most then 9 else 0:=fun h h1=>by have:=hk h h1;rw [putE,if_pos (omE_zero h).1,if_neg xo]
 have hQ:omE c s gs ps=0→e1=0→inQ c s gs ps e1=inE c s gs ps:=fun h h1=>by rw [inQ,if_pos h,if_pos h1]
 have hbad:∀e,e≠0→inQ c s gs ps e1=e→∀e' w',FreshOm3 w ⟨0,0,0,0,0,0,0,0,0⟩ nilC [] [] 0 0 0 e e' w'→FreshR w (inR c s gs ps mv (inQ c s gs ps e1) k) (inN gs ps (inQ c s gs ps e1)) (inK gs ps (inQ c s gs ps e1)) (inQ c s gs ps e1) e' w':=fun e h q e' w' F=>by
  rw [q,(hR e h).1,(hR e h).2.1,(hR e h).2.2];exact F
 refine in_core c s sa gs ps mv ga pa gc pc fid caps (inS c s gs ps k) (makeG gs ps 0) (makeP gs ps 0) k1 (makeN gs ps 0) (makeK gs ps 0) (omE c s gs ps) e1 (makeE gs ps 0) (putE c s k) w _ eg
   (hid fun W hb=>omCheck_ok c s sa gs ps mv ga pa gc pc hl hl2 hlg hlp hcc W (hin.below hb) (hg.below hb) (hp.below hb)) (hid WH)
   (hid fun _ _ W hb=>Make_ok ga pa gc pc gs ps 0 W (hg.below hb) (hp.below hb) hlg hlp)
   (hid fun _ h1 _ W hb=>by rw [hk1 h1];exact gapPut_ok c s sa hl hl2 hcc k (makeN gs ps 0) 0 W (hin.below hb) (hT.below hb))
   (hid fun h0 h1 h2 h3=> ?_) (hid fun h=>hbad _ h (if_neg h)) (hid fun h0 h1=>hbad _ h1 (by rw [inQ,if_pos h0,if_neg h1]))
   (hid fun h0 h1 h2=>hbad _ h2 ?_) (hid fun h0 h1 h2 h3=>hbad _ h3 ?_) (hid fun h0 h1 h2 h3 e' w' F=> ?_)
 · refine in_sizes hin.u h0 ?_ (hk h0 h1);rw [hM h0] at h2;rw [hP h0 h1] at h3;rw [inE,if_pos];refine ⟨?_,fun e=>by rw [if_pos e] at h3;exact absurd h3 xdd⟩;by_cases q:makeOk gs ps 0=true
   · exact q
   · rw [if_neg q] at h2;exact absurd h2 xdd
 · rw [hQ h0 h1,hM h0,inE];rw [hM h0] at h2;by_cases q:makeOk gs ps 0=true
   · rw [if_pos q] at h2;exact absurd rfl h2
   · rw [if_neg q,if_neg fun e=>q e.1]
 · rw [hQ h0 h1,hP h0 h1,inE];rw [hP h0 h1] at h3;by_cases q:(manyC s:Int)=c.most
   · rw [if_pos q,if_neg fun e=>e.2 q]
   · rw [if_neg q] at h3;exact absurd rfl h3
 · have q:inQ c s gs ps e1=0:=by
     rw [hM h0] at h2;rw [hP h0 h1] at h3;rw [hQ h0 h1,inE,if_pos];refine ⟨?_,fun e=>by rw [if_pos e] at h3;exact absurd h3 xdd⟩;by_cases q:makeOk gs ps 0=true
     · exact q
     · rw [if_neg q] at h2;exact absurd h2 xdd
   rw [q,inR,if_pos rfl,inN,if_pos rfl,inK,if_pos rfl];exact F
theorem enters_fst:∀args w,(callFunc 34 args).run Tryz.prog w= .ok (.enter 34 args) w:=enters_of Tryz.func34 xk rfl
theorem enters_aft:∀args w,(callFunc 37 args).run Tryz.prog w= .ok (.enter 37 args) w:=enters_of Tryz.func37 xk rfl
theorem enters_bef:∀args w,(callFunc 40 args).run Tryz.prog w= .ok (.enter 40 args) w:=enters_of Tryz.func40 xk rfl
theorem omFirst_ok (c:Cfg) (s:SlC) (sa:SlA) (gs ps:List Int) (mv:Int) (ga pa:Option Addr) (gc pc:Nat) (hl:s.ws.length≤1000000000000) (hl2:s.ks.length≤1000000000000) (hlg:gs.length≤1000000000) (hlp:ps.length≤1000000000) (hcc:s.cs.length≤sa.cc) (w:World) (hin:SlIn w s sa) (hg:IsRow .i64 w ga gs) (hp:IsRow .i64 w pa ps) (hT:TabAt w):
    Calls Tryz.prog 10 #[omV c s sa.wa sa.ka sa.va sa.ca sa.wc sa.kc sa.vc sa.cc gs ps mv ga pa gc pc] w (FreshR w (inR c s gs ps mv (fstE c s gs ps) 0) (inN gs ps (fstE c s gs ps)) (inK gs ps (fstE c s gs ps)) (fstE c s gs ps)):=by
 refine omFirst_w c s sa gs ps mv ga pa gc pc _ _ _ _ w (hid fun W hb=> ?_);have:=in_all c s sa gs ps mv ga pa gc pc hl hl2 hlg hlp hcc 34 #[] 0 0 0 W (hin.below hb) (hg.below hb) (hp.below hb) (hT.below hb) enters_fst (fun _ _=>Nat.zero_le _) (fun _=>rfl) (fun _ W' b _ _=>by simpa using first_wh b W');rw [fst_inQ] at this;exact this
theorem isE_zero {gs ps:List Int} {n g:Int} (h:isE gs ps n g=0):isH gs ps n g=true:=by
 rw [isE] at h;cases hi:isH gs ps n g with
 | true=>rfl
 | false=>rw [hi,if_neg xdd] at h;exact absurd h xdd
theorem omAfter_ok (c:Cfg) (s:SlC) (sa:SlA) (gs ps:List Int) (mv:Int) (ga pa:Option Addr) (gc pc:Nat) (hl:s.ws.length≤1000000000000) (hl2:s.ks.length≤1000000000000) (hlg:gs.length≤1000000000) (hlp:ps.length≤1000000000) (hcc:s.cs.length≤sa.cc) (n g:Int) (w:World) (hin:SlIn w s sa) (hg:IsRow .i64 w ga gs) (hp:IsRow .i64 w pa ps) (hT:TabAt w):
    Calls Tryz.prog 12 #[omV c s sa.wa sa.ka sa.va sa.ca sa.wc sa.kc sa.vc sa.cc gs ps mv ga pa gc pc,.agg #[.int .i64 n,.int .i64 g]] w (FreshR w (inR c s gs ps mv (bsdE c s gs ps n g) (rnkH s ps n+1)) (inN gs ps (bsdE c s gs ps n g)) (inK gs ps (bsdE c s gs ps n g)) (bsdE c s gs ps n g)):=by
 refine omAfter_w c s sa gs ps mv ga pa gc pc _ n g _ _ _ w (hid fun W b hb hXh=> ?_);have:=in_all c s sa gs ps mv ga pa gc pc hl hl2 hlg hlp hcc 37 #[.pointer (some ⟨b,0,none⟩)] (rnkH s ps n+1) ((if isH gs ps n g=true then (rnkH s ps n:Int) else 0)+1) (isE gs ps n g) W (hin.below hb) (hg.below hb) (hp.below hb) (hT.below hb) enters_aft
   (fun h0 h1=>by have:=(rnk_idx h0 (isE_zero h1)).2;omega) (fun h1=>by simp [isE_zero h1]) (fun h0 W' q hX hb'=> ?_)
 · rw [bsd_inQ] at this;exact this
 · have hbw:=below_via hb' hb hb.size;have hc:=bx_pb (bx_below hb' hXh (bx_lt hXh));have nn:=om_nums (omE_zero h0).1 hin.u;have hcl:=cntW_le s.ws 0 (ps.getD n.toNat 0).toNat;have hrl:isH gs ps n g=true→rnkH s ps n≤65536:=fun hi=>by have:=(rnk_idx h0 hi).2;have:=cntW_le s.ws 0 s.ks.length;unfold manyC at *;omega
   have hbd: -1000000000≤(if isH gs ps n g=true then (rnkH s ps n:Int) else 0)∧(if isH gs ps n g=true then (rnkH s ps n:Int) else 0)≤1000000000:=by
    cases hi:isH gs ps n g with
    | true=>have:=hrl hi;rw [if_pos rfl];omega
    | false=>rw [if_neg xdd];omega
   have:=after_wh q b n g (if isH gs ps n g=true then (rnkH s ps n:Int) else 0) (isE gs ps n g) hbd W' (hc 0 _ rfl) (hc 1 _ rfl) (hid fun X hx=>rank_ok c s sa gs ps mv ga pa gc pc hl hl2 hlg hlp hcc q n g X ((hin.below hbw).below hx) ((hg.below hbw).below hx) ((hp.below hbw).below hx) ((hT.below hbw).below hx) h0 (bx_below hx hX (bx_lt hX)));simpa using this
theorem omBefore_ok (c:Cfg) (s:SlC) (sa:SlA) (gs ps:List Int) (mv:Int) (ga pa:Option Addr) (gc pc:Nat) (hl:s.ws.length≤1000000000000) (hl2:s.ks.length≤1000000000000) (hlg:gs.length≤1000000000) (hlp:ps.length≤1000000000) (hcc:s.cs.length≤sa.cc) (n g:Int) (w:World) (hin:SlIn w s sa) (hg:IsRow .i64 w ga gs) (hp:IsRow .i64 w pa ps) (hT:TabAt w):
    Calls Tryz.prog 14 #[omV c s sa.wa sa.ka sa.va sa.ca sa.wc sa.kc sa.vc sa.cc gs ps mv ga pa gc pc,.agg #[.int .i64 n,.int .i64 g]] w (FreshR w (inR c s gs ps mv (bsdE c s gs ps n g) (rnkH s ps n)) (inN gs ps (bsdE c s gs ps n g)) (inK gs ps (bsdE c s gs ps n g)) (bsdE c s gs ps n g)):=by
 refine omBefore_w c s sa gs ps mv ga pa gc pc _ n g _ _ _ w (hid fun W b hb hXh=> ?_);have:=in_all c s sa gs ps mv ga pa gc pc hl hl2 hlg hlp hcc 40 #[.pointer (some ⟨b,0,none⟩)] (rnkH s ps n) ((if isH gs ps n g=true then (rnkH s ps n:Int) else 0)) (isE gs ps n g) W (hin.below hb) (hg.below hb) (hp.below hb) (hT.below hb) enters_bef
   (fun h0 h1=>by have:=(rnk_idx h0 (isE_zero h1)).2;omega) (fun h1=>by simp [isE_zero h1]) (fun h0 W' q hX hb'=> ?_)
 · rw [bsd_inQ] at this;exact this
 · have hbw:=below_via hb' hb hb.size;have hc:=bx_pb (bx_below hb' hXh (bx_lt hXh));have nn:=om_nums (omE_zero h0).1 hin.u;have hcl:=cntW_le s.ws 0 (ps.getD n.toNat 0).toNat;have hrl:isH gs ps n g=true→rnkH s ps n≤65536:=fun hi=>by have:=(rnk_idx h0 hi).2;have:=cntW_le s.ws 0 s.ks.length;unfold manyC at *;omega
   have hbd: -1000000000≤(if isH gs ps n g=true then (rnkH s ps n:Int) else 0)∧(if isH gs ps n g=true then (rnkH s ps n:Int) else 0)≤1000000000:=by
    cases hi:isH gs ps n g with
    | true=>have:=hrl hi;rw [if_pos rfl];omega
    | false=>rw [if_neg xdd];omega
   have:=before_wh q b n g (if isH gs ps n g=true then (rnkH s ps n:Int) else 0) (isE gs ps n g) hbd W' (hc 0 _ rfl) (hc 1 _ rfl) (hid fun X hx=>rank_ok c s sa gs ps mv ga pa gc pc hl hl2 hlg hlp hcc q n g X ((hin.below hbw).below hx) ((hg.below hbw).below hx) ((hp.below hbw).below hx) ((hT.below hbw).below hx) h0 (bx_below hx hX (bx_lt hX)));simpa using this
theorem omDelete_ok (c:Cfg) (s:SlC) (sa:SlA) (gs ps:List Int) (mv:Int) (ga pa:Option Addr) (gc pc:Nat) (hl:s.ws.length≤1000000000000) (hl2:s.ks.length≤1000000000000) (hlg:gs.length≤1000000000) (hlp:ps.length≤1000000000) (hcc:s.cs.length≤sa.cc) (n g:Int) (w:World) (hin:SlIn w s sa) (hg:IsRow .i64 w ga gs) (hp:IsRow .i64 w pa ps) (hT:TabAt w):
    Calls Tryz.prog 16 #[omV c s sa.wa sa.ka sa.va sa.ca sa.wc sa.kc sa.vc sa.cc gs ps mv ga pa gc pc,.agg #[.int .i64 n,.int .i64 g]] w (FreshR2 w (outR c s gs ps mv n g) (outE c s gs ps n g)):=by
 have hbad:∀e,e≠0→outE c s gs ps n g=e→∀e' w',FreshOm2 w ⟨0,0,0,0,0,0,0,0,0⟩ nilC [] [] 0 (.int .i64 e) e' w'→FreshR2 w (outR c s gs ps mv n g) (outE c s gs ps n g) e' w':=fun e h q e' w' F=>by
  rw [outR,q,if_neg h];exact F
 refine del_core c s sa gs ps mv ga pa gc pc (outS c s ps n) (dropG gs ps n g) (dropP gs ps n g) (if isH gs ps n g=true then (rnkH s ps n:Int) else 0) n g (omE c s gs ps) (isE gs ps n g) w _
   (hid fun W hb=>omCheck_ok c s sa gs ps mv ga pa gc pc hl hl2 hlg hlp hcc W (hin.below hb) (hg.below hb) (hp.below hb))
   (hid fun h0 W b hX hb=>rank_ok c s sa gs ps mv ga pa gc pc hl hl2 hlg hlp hcc b n g W (hin.below hb) (hg.below hb) (hp.below hb) (hT.below hb) h0 hX)
   (hid fun h0 h1 W hb=> ?_) (hid fun h0 h1 W hb=> ?_) (hid fun h0 h1=>out_sizes hin.u h0 (isE_zero h1)) (hid fun h=>hbad _ h (if_neg h)) (hid fun h0 h1=>hbad _ h1 (by rw [outE,if_pos h0];rfl)) (hid fun h0 h1 e' w' F=> ?_)
 · have hi:=isE_zero h1;have:=gapTake_ok c s sa hl hl2 hcc (rnkH s ps n) W (hin.below hb) (hT.below hb);rw [(out_prs hin.u h0 hi).1] at this;rw [if_pos hi];exact this
 · have:=Drop_ok ga pa gc pc gs ps n g W (hg.below hb) (hp.below hb) hlg hlp;unfold DropR tfindE at this;rw [if_pos (omE_zero h0).2.1,if_pos (isE_zero h1)] at this;exact this
 · have q:outE c s gs ps n g=0:=by rw [outE,if_pos h0,if_pos (isE_zero h1)]
   rw [outR,q,if_pos rfl];exact F
end
section
open Go.RowKit Go.Shelf
attribute [local go_sem] Oper.semAt_some
theorem omNew_err (c:Cfg) (d:SlC) (e:Int) (he:e≠0) (w:World) (NG:Hid (∀W,Calls Tryz.prog 55 #[.agg #[.int .u8 c.tag,.int .i64 c.most,.int .i64 c.seg,.int .i64 c.least,.int .i64 c.den,.int .i64 c.ll,.int .i64 c.rl,.int .i64 c.rh,.int .i64 c.lh]] W (FreshSl2 W d (.int .i64 e)))):
    Calls Tryz.prog 27 #[.agg #[.int .u8 c.tag,.int .i64 c.most,.int .i64 c.seg,.int .i64 c.least,.int .i64 c.den,.int .i64 c.ll,.int .i64 c.rl,.int .i64 c.rh,.int .i64 c.lh]] w (FreshOm2 w ⟨0,0,0,0,0,0,0,0,0⟩ nilC [] [] 0 (.int .i64 e)):=by
 have ge:(e != 0)=true:=by simpa using he
 clear he;go_enter Tryz.func27,Tryz.ntmps27
 go_upto_region 1 with (fail)
 generalize hwz:(w.alloc _).alloc _=wz;obtain ⟨hs,hxt,hxr,hzz⟩:=bx_two hwz;have HS:=hid hs;have HXt:=hid hxt;have HXr:=hid hxr;clear hwz hs hxt hxr;have c_t0:=bx_pb HXt.out 0 _ rfl;have c_t1:=bx_pb HXt.out 1 _ rfl;have c_t2:=bx_pb HXt.out 2 _ rfl;have c_t3:=bx_pb HXt.out 3 _ rfl;have c_t4:=bx_pb HXt.out 4 _ rfl;have c_t5:=bx_pb HXt.out 5 _ rfl;have c_t6:=bx_pb HXt.out 6 _ rfl;have c_t7:=bx_pb HXt.out 7 _ rfl;have c_t8:=bx_pb HXt.out 8 _ rfl;go_wp2_with fail
 refine (NG.out _).mono ?_;rintro e' w1 ⟨v1,v2,v3,v4,rfl,p1,p2,p3,p4,hb1⟩;have HB1:=xv hb1 HS;replace HXt:=hid (bx_below hb1 HXt.out (bx_lt HXt.out));replace HXr:=hid (bx_below hb1 HXr.out (bx_lt HXr.out));have hzb1:=hb1.size;obtain ⟨a1,k1,rfl,-,-,-,-,-⟩:=row_of_owns p1;obtain ⟨a2,k2,rfl,-,-,-,-,-⟩:=row_of_owns p2;obtain ⟨a3,k3,rfl,-,-,-,-,-⟩:=row_of_owns p3;obtain ⟨a4,k4,rfl,-,-,-,-,-⟩:=row_of_owns p4;clear p1 p2 p3 p4 c_t0 c_t1 c_t2 c_t3 c_t4 c_t5 c_t6 c_t7 c_t8;go_upto_region 2 with (fail)
 generalize hw2:w1.alloc _=w2;have hb2:Below w1.heap.size w1 w2:=by rw [←hw2];exact br.alloc (Nat.le_refl _) _
 have HB2:=xv hb2 HB1;replace HXt:=hid (bx_below hb2 HXt.out (bx_lt HXt.out));replace HXr:=hid (bx_below hb2 HXr.out (bx_lt HXr.out));have hzb2:=hb2.size;clear hw2 hb1 hb2;go_wp2_with (refine wpl_store_row 33 (.tmp 2) (.tmp 13) _ [.int .u8 0,.int .i64 0,.int .i64 0,.int .i64 0,.int .i64 0,.int .i64 0,.int .i64 0,.int .i64 0,.int .i64 0,.int .i64 0,.slice none 0 0,.slice none 0 0,.slice none 0 0,.slice none 0 0,.int .u64 0,.slice none 0 0,.slice none 0 0,.int .u64 0] [.int .u8 0,.int .i64 0,.int .i64 0,.int .i64 0,.int .i64 0,.int .i64 0,.int .i64 0,.int .i64 0,.int .i64 0,.int .i64 0,.slice none 0 0,.slice none 0 0,.slice none 0 0,.slice none 0 0,.int .u64 0,.slice none 0 0,.slice none 0 0,.int .u64 0] rfl rfl rfl rfl xk rfl (by simp [Value.oneCell']) HXr.out ?_;intro w9 hs9 hx9)
 exact bodyPost_ret (results_ct rfl rfl (run_loadVar_many _ Tryz.underlying33 rfl xk (bx_pb hx9))) rfl ⟨_,_,_,_,_,_,rfl,World.ownsRow_nil _ _ _ _,World.ownsRow_nil _ _ _ _,World.ownsRow_nil _ _ _ _,World.ownsRow_nil _ _ _ _,World.ownsRow_nil _ _ _ _,World.ownsRow_nil _ _ _ _,HB2.out.trans (hs9.bel _ xo)⟩
theorem omNew_in (c:Cfg) (d:SlC) (w:World) (NG:Hid (∀W,Calls Tryz.prog 55 #[.agg #[.int .u8 c.tag,.int .i64 c.most,.int .i64 c.seg,.int .i64 c.least,.int .i64 c.den,.int .i64 c.ll,.int .i64 c.rl,.int .i64 c.rh,.int .i64 c.lh]] W (FreshSl2 W d (.int .i64 0)))):
    Calls Tryz.prog 27 #[.agg #[.int .u8 c.tag,.int .i64 c.most,.int .i64 c.seg,.int .i64 c.least,.int .i64 c.den,.int .i64 c.ll,.int .i64 c.rl,.int .i64 c.rh,.int .i64 c.lh]] w (FreshOm2 w c d [] [] 0 (.int .i64 0)):=by
 go_enter Tryz.func27,Tryz.ntmps27
 go_upto_region 1 with (fail)
 generalize hwz:(w.alloc _).alloc _=wz;obtain ⟨hs,hxt,hxr,hzz⟩:=bx_two hwz;have HS:=hid hs;have HXt:=hid hxt;have HXr:=hid hxr;clear hwz hs hxt hxr;have c_t0:=bx_pb HXt.out 0 _ rfl;have c_t1:=bx_pb HXt.out 1 _ rfl;have c_t2:=bx_pb HXt.out 2 _ rfl;have c_t3:=bx_pb HXt.out 3 _ rfl;have c_t4:=bx_pb HXt.out 4 _ rfl;have c_t5:=bx_pb HXt.out 5 _ rfl;have c_t6:=bx_pb HXt.out 6 _ rfl;have c_t7:=bx_pb HXt.out 7 _ rfl;have c_t8:=bx_pb HXt.out 8 _ rfl;go_wp2_with fail
 refine (NG.out _).mono ?_;rintro e' w1 ⟨v1,v2,v3,v4,rfl,p1,p2,p3,p4,hb1⟩;have HB1:=xv hb1 HS;replace HXt:=hid (bx_below hb1 HXt.out (bx_lt HXt.out));replace HXr:=hid (bx_below hb1 HXr.out (bx_lt HXr.out));have hzb1:=hb1.size;obtain ⟨a1,k1,rfl,-,-,-,-,-⟩:=row_of_owns p1;obtain ⟨a2,k2,rfl,-,-,-,-,-⟩:=row_of_owns p2;obtain ⟨a3,k3,rfl,-,-,-,-,-⟩:=row_of_owns p3;obtain ⟨a4,k4,rfl,-,-,-,-,-⟩:=row_of_owns p4;go_upto_region 2 with (fail)
 generalize hw2:w1.alloc _=w2;have hb2:Below w1.heap.size w1 w2:=by rw [←hw2];exact br.alloc (Nat.le_refl _) _
 have HXo:Hid (BX w2 w1.heap.size 29 [.int .i64 d.seg,.slice a1 d.ws.length k1,.slice a2 d.ks.length k2,.slice a3 d.vs.length k3,.slice a4 d.cs.length k4,.int .u64 d.laid]):=by rw [←hw2];exact hid (bx_new _ _ _)
 have HB2:=xv hb2 HB1;replace HXt:=hid (bx_below hb2 HXt.out (bx_lt HXt.out));replace HXr:=hid (bx_below hb2 HXr.out (bx_lt HXr.out));have hzb2:=hb2.size;have HP:=hid (And.intro (owns_below p1 hb2) (And.intro (owns_below p2 hb2) (And.intro (owns_below p3 hb2) (owns_below p4 hb2))));clear hw2 hb1 hb2 p1 p2 p3 p4 c_t0 c_t1 c_t2 c_t3 c_t4 c_t5 c_t6 c_t7 c_t8;have c_t0:=bx_pb HXt.out 0 _ rfl;have c_t1:=bx_pb HXt.out 1 _ rfl;have c_t2:=bx_pb HXt.out 2 _ rfl;have c_t3:=bx_pb HXt.out 3 _ rfl;have c_t4:=bx_pb HXt.out 4 _ rfl;have c_t5:=bx_pb HXt.out 5 _ rfl;have c_t6:=bx_pb HXt.out 6 _ rfl;have c_t7:=bx_pb HXt.out 7 _ rfl;have c_t8:=bx_pb HXt.out 8 _ rfl;have c_o0:=bx_pb HXo.out 0 _ rfl;have c_o1:=bx_pb HXo.out 1 _ rfl;have c_o2:=bx_pb HXo.out 2 _ rfl;have c_o3:=bx_pb HXo.out 3 _ rfl;have c_o4:=bx_pb HXo.out 4 _ rfl;have c_o5:=bx_pb HXo.out 5 _ rfl;go_upto_region 4 with (fail)
 have hzx:=hzz;go_wp2_with (refine wpl_store_row 33 (.tmp 2) (.tmp 17) _ [.int .u8 0,.int .i64 0,.int .i64 0,.int .i64 0,.int .i64 0,.int .i64 0,.int .i64 0,.int .i64 0,.int .i64 0,.int .i64 0,.slice none 0 0,.slice none 0 0,.slice none 0 0,.slice none 0 0,.int .u64 0,.slice none 0 0,.slice none 0 0,.int .u64 0] [.int .u8 c.tag,.int .i64 c.most,.int .i64 c.seg,.int .i64 c.least,.int .i64 c.den,.int .i64 c.ll,.int .i64 c.rl,.int .i64 c.rh,.int .i64 c.lh,.int .i64 d.seg,.slice a1 d.ws.length k1,.slice a2 d.ks.length k2,.slice a3 d.vs.length k3,.slice a4 d.cs.length k4,.int .u64 d.laid,.slice none 0 0,.slice none 0 0,.int .u64 0] rfl rfl rfl rfl xk rfl (by simp [Value.oneCell']) HXr.out ?_;intro w9 hs9 hx9)
 exact bodyPost_ret (results_ct rfl rfl (run_loadVar_many _ Tryz.underlying33 rfl xk (bx_pb hx9))) rfl ⟨_,_,_,_,_,_,rfl,owns_base (owns_heap HP.out.1 fun x hx=>hs9.other x (by have:=(HP.out.1.lt x hx).1;omega)) xo,owns_base (owns_heap HP.out.2.1 fun x hx=>hs9.other x (by have:=(HP.out.2.1.lt x hx).1;omega)) xo,owns_base (owns_heap HP.out.2.2.1 fun x hx=>hs9.other x (by have:=(HP.out.2.2.1.lt x hx).1;omega)) xo,owns_base (owns_heap HP.out.2.2.2 fun x hx=>hs9.other x (by have:=(HP.out.2.2.2.lt x hx).1;omega)) xo,World.ownsRow_nil _ _ _ _,World.ownsRow_nil _ _ _ _,HB2.out.trans (hs9.bel _ xo)⟩
theorem omNew_ok (c:Cfg) (w:World):Calls Tryz.prog 27 #[.agg #[.int .u8 c.tag,.int .i64 c.most,.int .i64 c.seg,.int .i64 c.least,.int .i64 c.den,.int .i64 c.ll,.int .i64 c.rl,.int .i64 c.rh,.int .i64 c.lh]] w (FreshOm2 w (newF c) (newC c) [] [] 0 (.int .i64 (cfE c))):=by
 cases h:cfMay c with
 | true=>
  have e:cfE c=0:=cfE_ok h;have hn:newC c=emptyC c:=by rw [newC,if_pos h]
  rw [newF,if_pos h,e];exact omNew_in c (newC c) w (hid fun W=>e ▸ gapNew_ok c W)
 | false=>
  have e:cfE c=50:=by simp [cfE,h]
  rw [newF,if_neg (by simp [h]),newC,if_neg (by simp [h]),e];exact omNew_err c (newC c) 50 xdd w (hid fun W=>e ▸ gapNew_ok c W)
end
section
open Go.RowKit Go.Shelf Go.Sort
structure OmA where
 sa:SlA
 ga:Option Addr
 pa:Option Addr
 gc:Nat
 pc:Nat
def ordL (r:OmR) (A:OmA):List Value:=[.int .u8 r.c.tag,.int .i64 r.c.most,.int .i64 r.c.seg,.int .i64 r.c.least,.int .i64 r.c.den,.int .i64 r.c.ll,.int .i64 r.c.rl,.int .i64 r.c.rh,.int .i64 r.c.lh,.int .i64 r.s.seg,.slice A.sa.wa r.s.ws.length A.sa.wc,.slice A.sa.ka r.s.ks.length A.sa.kc,.slice A.sa.va r.s.vs.length A.sa.vc,.slice A.sa.ca r.s.cs.length A.sa.cc,.int .u64 r.s.laid,.slice A.ga r.gs.length A.gc,.slice A.pa r.ps.length A.pc,.int .u64 r.mv]
def ordV (r:OmR) (A:OmA):Value:= .agg (ordL r A).toArray
def hdL (n g:Int):List Value:=[.int .i64 n,.int .i64 g]
def hdV (n g:Int):Value:= .agg (hdL n g).toArray
def zordL:List Value:=[.int .u8 0,.int .i64 0,.int .i64 0,.int .i64 0,.int .i64 0,.int .i64 0,.int .i64 0,.int .i64 0,.int .i64 0,.int .i64 0,.slice none 0 0,.slice none 0 0,.slice none 0 0,.slice none 0 0,.int .u64 0,.slice none 0 0,.slice none 0 0,.int .u64 0]
def zhdL:List Value:=[.int .i64 0,.int .i64 0]
theorem ordL_one (r:OmR) (A:OmA):(ordL r A).toArray.all (·.oneCell')=true:=by simp [ordL,Value.oneCell']
theorem hdL_one (n g:Int):(hdL n g).toArray.all (·.oneCell')=true:=by simp [hdL,Value.oneCell']
structure SzO (r:OmR):Prop where
 w:r.s.ws.length≤1000000
 k:r.s.ks.length≤1000000
 v:r.s.vs.length≤1000000
 c:r.s.cs.length≤1000000
 g:r.gs.length≤65536
 p:r.ps.length≤65536
 u:U64s r.s.ws
structure InO (w:World) (r:OmR) (A:OmA):Prop where
 sl:SlIn w r.s A.sa
 cc:r.s.cs.length≤A.sa.cc
 g:IsRow .i64 w A.ga r.gs
 p:IsRow .i64 w A.pa r.ps
 sz:SzO r
theorem InO.below {w w':World} {r:OmR} {A:OmA} (h:InO w r A) (hb:Below w.heap.size w w'):InO w' r A:=⟨h.sl.below hb,h.cc,h.g.below hb,h.p.below hb,h.sz⟩
structure OwO (w:World) (B M:Nat) (r:OmR) (A:OmA):Prop where
 o1:w.ownsRow B 27 1 (.slice A.sa.wa r.s.ws.length A.sa.wc) r.s.ws.length (r.s.ws.map (Value.int .u64))
 o2:w.ownsRow B 2 1 (.slice A.sa.ka r.s.ks.length A.sa.kc) r.s.ks.length (r.s.ks.map (Value.int .i64))
 o3:w.ownsRow B 2 1 (.slice A.sa.va r.s.vs.length A.sa.vc) r.s.vs.length (r.s.vs.map (Value.int .i64))
 o4:w.ownsRow B 3 1 (.slice A.sa.ca r.s.cs.length A.sa.cc) r.s.cs.length (r.s.cs.map (Value.int .i64))
 o5:w.ownsRow B 3 1 (.slice A.ga r.gs.length A.gc) r.gs.length (r.gs.map (Value.int .i64))
 o6:w.ownsRow B 3 1 (.slice A.pa r.ps.length A.pc) r.ps.length (r.ps.map (Value.int .i64))
 m1:∀k,(Value.slice A.sa.wa r.s.ws.length A.sa.wc).ownBlock=some k→k<M
 m2:∀k,(Value.slice A.sa.ka r.s.ks.length A.sa.kc).ownBlock=some k→k<M
 m3:∀k,(Value.slice A.sa.va r.s.vs.length A.sa.vc).ownBlock=some k→k<M
 m4:∀k,(Value.slice A.sa.ca r.s.cs.length A.sa.cc).ownBlock=some k→k<M
 m5:∀k,(Value.slice A.ga r.gs.length A.gc).ownBlock=some k→k<M
 m6:∀k,(Value.slice A.pa r.ps.length A.pc).ownBlock=some k→k<M
 sz:SzO r
theorem OwO.below {w w':World} {B M:Nat} {r:OmR} {A:OmA} (h:OwO w B M r A) (hb:Below w.heap.size w w'):OwO w' B M r A:=
  ⟨owns_below h.o1 hb,owns_below h.o2 hb,owns_below h.o3 hb,owns_below h.o4 hb,owns_below h.o5 hb,owns_below h.o6 hb,h.m1,h.m2,h.m3,h.m4,h.m5,h.m6,h.sz⟩
theorem OwO.row {w w':World} {B M b:Nat} {r:OmR} {A:OmA} (h:OwO w B M r A) (hr:RowR b w w') (hd:b<B∨M≤b):OwO w' B M r A:=
  ⟨owns_heap h.o1 (fun k hk=>hr.other k (by have h1:=(h.o1.lt k hk).1;have h2:=h.m1 k hk;omega)),owns_heap h.o2 (fun k hk=>hr.other k (by have h1:=(h.o2.lt k hk).1;have h2:=h.m2 k hk;omega)),owns_heap h.o3 (fun k hk=>hr.other k (by have h1:=(h.o3.lt k hk).1;have h2:=h.m3 k hk;omega)),owns_heap h.o4 (fun k hk=>hr.other k (by have h1:=(h.o4.lt k hk).1;have h2:=h.m4 k hk;omega)),owns_heap h.o5 (fun k hk=>hr.other k (by have h1:=(h.o5.lt k hk).1;have h2:=h.m5 k hk;omega)),owns_heap h.o6 (fun k hk=>hr.other k (by have h1:=(h.o6.lt k hk).1;have h2:=h.m6 k hk;omega)),h.m1,h.m2,h.m3,h.m4,h.m5,h.m6,h.sz⟩
theorem OwO.base {w:World} {B B' M:Nat} {r:OmR} {A:OmA} (h:OwO w B M r A) (hB:B'≤B):OwO w B' M r A:=
  ⟨owns_base h.o1 hB,owns_base h.o2 hB,owns_base h.o3 hB,owns_base h.o4 hB,owns_base h.o5 hB,owns_base h.o6 hB,h.m1,h.m2,h.m3,h.m4,h.m5,h.m6,h.sz⟩
theorem OwO.inO {w:World} {B M:Nat} {r:OmR} {A:OmA} (h:OwO w B M r A):InO w r A:=by
 obtain ⟨y,m,hy,i1,-,-,-,-⟩:=row_of_owns h.o1;cases hy;obtain ⟨y,m,hy,i2,-,-,-,-⟩:=row_of_owns h.o2;cases hy;obtain ⟨y,m,hy,i3,-,-,-,-⟩:=row_of_owns h.o3;cases hy;obtain ⟨y,m,hy,i4,-,-,hc,-⟩:=row_of_owns h.o4;cases hy;obtain ⟨y,m,hy,i5,-,-,-,-⟩:=row_of_owns h.o5;cases hy;obtain ⟨y,m,hy,i6,-,-,-,-⟩:=row_of_owns h.o6;cases hy;exact ⟨⟨i1,i2,i3,i4,h.sz.u⟩,hc,i5,i6,h.sz⟩
def FrO (w:World) (r:OmR) (n g x:Int) (e:Ending) (w':World):Prop:=∃A,e= .returned (.tuple #[ordV r A,hdV n g,.int .i64 x])∧OwO w' w.heap.size w'.heap.size r A∧Below w.heap.size w w'
def FrO2 (w:World) (r:OmR) (x:Int) (e:Ending) (w':World):Prop:=∃A,e= .returned (.tuple #[ordV r A,.int .i64 x])∧OwO w' w.heap.size w'.heap.size r A∧Below w.heap.size w w'
theorem frO_of {w w':World} {r:OmR} {n g x:Int} {e:Ending} (sz:SzO r) (h:FreshR w r n g x e w'):FrO w r n g x e w':=by
 obtain ⟨v1,v2,v3,v4,v5,v6,rfl,p1,p2,p3,p4,p5,p6,hb⟩:=h;obtain ⟨a1,k1,rfl,-⟩:=row_of_owns p1;obtain ⟨a2,k2,rfl,-⟩:=row_of_owns p2;obtain ⟨a3,k3,rfl,-⟩:=row_of_owns p3;obtain ⟨a4,k4,rfl,-⟩:=row_of_owns p4;obtain ⟨a5,k5,rfl,-⟩:=row_of_owns p5;obtain ⟨a6,k6,rfl,-⟩:=row_of_owns p6;exact ⟨⟨⟨a1,a2,a3,a4,k1,k2,k3,k4⟩,a5,a6,k5,k6⟩,rfl,⟨p1,p2,p3,p4,p5,p6,fun k hk=>(p1.lt k hk).2,fun k hk=>(p2.lt k hk).2,fun k hk=>(p3.lt k hk).2,fun k hk=>(p4.lt k hk).2,fun k hk=>(p5.lt k hk).2,fun k hk=>(p6.lt k hk).2,sz⟩,hb⟩
theorem frO2_of {w w':World} {r:OmR} {x:Int} {e:Ending} (sz:SzO r) (h:FreshR2 w r x e w'):FrO2 w r x e w':=by
 obtain ⟨v1,v2,v3,v4,v5,v6,rfl,p1,p2,p3,p4,p5,p6,hb⟩:=h;obtain ⟨a1,k1,rfl,-⟩:=row_of_owns p1;obtain ⟨a2,k2,rfl,-⟩:=row_of_owns p2;obtain ⟨a3,k3,rfl,-⟩:=row_of_owns p3;obtain ⟨a4,k4,rfl,-⟩:=row_of_owns p4;obtain ⟨a5,k5,rfl,-⟩:=row_of_owns p5;obtain ⟨a6,k6,rfl,-⟩:=row_of_owns p6;exact ⟨⟨⟨a1,a2,a3,a4,k1,k2,k3,k4⟩,a5,a6,k5,k6⟩,rfl,⟨p1,p2,p3,p4,p5,p6,fun k hk=>(p1.lt k hk).2,fun k hk=>(p2.lt k hk).2,fun k hk=>(p3.lt k hk).2,fun k hk=>(p4.lt k hk).2,fun k hk=>(p5.lt k hk).2,fun k hk=>(p6.lt k hk).2,sz⟩,hb⟩
def OmR.E (r:OmR):Int:=omE r.c r.s r.gs r.ps
def OmR.fE (r:OmR):Int:=fstE r.c r.s r.gs r.ps
def OmR.fR (r:OmR):OmR:=inR r.c r.s r.gs r.ps r.mv r.fE 0
def OmR.bE (r:OmR) (n g:Int):Int:=bsdE r.c r.s r.gs r.ps n g
def OmR.aR (r:OmR) (n g:Int):OmR:=inR r.c r.s r.gs r.ps r.mv (r.bE n g) (rnkH r.s r.ps n+1)
def OmR.bR (r:OmR) (n g:Int):OmR:=inR r.c r.s r.gs r.ps r.mv (r.bE n g) (rnkH r.s r.ps n)
def OmR.nN (r:OmR) (e:Int):Int:=inN r.gs r.ps e
def OmR.nK (r:OmR) (e:Int):Int:=inK r.gs r.ps e
def OmR.dE (r:OmR) (n g:Int):Int:=outE r.c r.s r.gs r.ps n g
def OmR.dR (r:OmR) (n g:Int):OmR:=outR r.c r.s r.gs r.ps r.mv n g
def OmR.L (r:OmR):List (Int×Int):=lstL r.c r.s r.gs r.ps
def OmR.lE (r:OmR) (n g:Int):Int:=labE r.c r.s r.gs r.ps n g
def OmR.lV (r:OmR) (n g:Int):Int:=labV r.c r.s r.gs r.ps n g
def OmR.cE (r:OmR) (n g m h:Int):Int:=cmpE r.c r.s r.gs r.ps n g m h
def OmR.cV (r:OmR) (n g m h:Int):Int:=cmpV r.c r.s r.gs r.ps n g m h
def newR (c:Cfg):OmR:=⟨newF c,newC c,[],[],0⟩
theorem nil_u:U64s nilC.ws:=by intro x hx;cases hx
theorem sz_nil:SzO nilR:=⟨by decide,by decide,by decide,by decide,by decide,by decide,nil_u⟩
theorem makeP_len (gs ps:List Int):(makeP gs ps 0).length≤65536∧(makeG gs ps 0).length≤65536:=by
 by_cases h:makeOk gs ps 0=true
 · have hm:may gs ps=true:=(made_of h).1;have:=make_len hm h;omega
 · rw [makeP,makeG,if_neg h,if_neg h];simp
theorem dropP_len (gs ps:List Int) (n g:Int):(dropP gs ps n g).length≤65536∧(dropG gs ps n g).length≤65536:=by
 by_cases h:may gs ps=true∧isH gs ps n g=true
 · have:=drop_len h.1 h.2;have:=may_len h.1;omega
 · rw [dropP,dropG,if_neg h,if_neg h];simp
theorem sz_in (c:Cfg) (s:SlC) (gs ps:List Int) (mv e:Int) (k:Nat) (hu:U64s s.ws):SzO (inR c s gs ps mv e k):=by
 unfold inR;split
 · obtain ⟨n1,n2,n3,n4,u⟩:=put_nums c s hu k (makeN gs ps 0,0);have ml:=makeP_len gs ps;refine ⟨n1,n2,n3,n4,ml.2,?_,u⟩;show (inX c s gs ps mv k).1.length≤_;rw [inX,stlTo_length];exact ml.1
 · exact sz_nil
theorem sz_out (c:Cfg) (s:SlC) (gs ps:List Int) (mv n g:Int) (hu:U64s s.ws):SzO (outR c s gs ps mv n g):=by
 unfold outR;split
 · obtain ⟨n1,n2,n3,n4,u⟩:=take_nums c s hu (rnkH s ps n);have ml:=dropP_len gs ps n g;refine ⟨n1,n2,n3,n4,ml.2,?_,u⟩;show (outX c s gs ps mv n g).1.length≤_;rw [outX,stlTo_length];exact ml.1
 · exact sz_nil
theorem sz_f {r:OmR} (sz:SzO r):SzO r.fR:=sz_in _ _ _ _ _ _ _ sz.u
theorem sz_a {r:OmR} (sz:SzO r) (n g:Int):SzO (r.aR n g):=sz_in _ _ _ _ _ _ _ sz.u
theorem sz_b {r:OmR} (sz:SzO r) (n g:Int):SzO (r.bR n g):=sz_in _ _ _ _ _ _ _ sz.u
theorem sz_d {r:OmR} (sz:SzO r) (n g:Int):SzO (r.dR n g):=sz_out _ _ _ _ _ _ _ sz.u
theorem sz_new (c:Cfg):SzO (newR c):=by
 obtain ⟨n1,n2,n3,n4,u⟩:=new_nums9 c;exact ⟨n1,n2,n3,n4,by show ([]:List Int).length≤_;decide,by show ([]:List Int).length≤_;decide,u⟩
theorem oFirst (r:OmR) (A:OmA) (w:World) (h:InO w r A) (hT:TabAt w):Calls Tryz.prog 10 #[ordV r A] w (FrO w r.fR (r.nN r.fE) (r.nK r.fE) r.fE):=
  (omFirst_ok r.c r.s A.sa r.gs r.ps r.mv A.ga A.pa A.gc A.pc (Nat.le_trans h.sz.w xdd) (Nat.le_trans h.sz.k xdd) (Nat.le_trans h.sz.g xdd) (Nat.le_trans h.sz.p xdd) h.cc w h.sl h.g h.p hT).mono fun _ _ q=>frO_of (sz_f h.sz) q
theorem oAfter (r:OmR) (A:OmA) (n g:Int) (w:World) (h:InO w r A) (hT:TabAt w):Calls Tryz.prog 12 #[ordV r A,hdV n g] w (FrO w (r.aR n g) (r.nN (r.bE n g)) (r.nK (r.bE n g)) (r.bE n g)):=
  (omAfter_ok r.c r.s A.sa r.gs r.ps r.mv A.ga A.pa A.gc A.pc (Nat.le_trans h.sz.w xdd) (Nat.le_trans h.sz.k xdd) (Nat.le_trans h.sz.g xdd) (Nat.le_trans h.sz.p xdd) h.cc n g w h.sl h.g h.p hT).mono fun _ _ q=>frO_of (sz_a h.sz n g) q
theorem oBefore (r:OmR) (A:OmA) (n g:Int) (w:World) (h:InO w r A) (hT:TabAt w):Calls Tryz.prog 14 #[ordV r A,hdV n g] w (FrO w (r.bR n g) (r.nN (r.bE n g)) (r.nK (r.bE n g)) (r.bE n g)):=
  (omBefore_ok r.c r.s A.sa r.gs r.ps r.mv A.ga A.pa A.gc A.pc (Nat.le_trans h.sz.w xdd) (Nat.le_trans h.sz.k xdd) (Nat.le_trans h.sz.g xdd) (Nat.le_trans h.sz.p xdd) h.cc n g w h.sl h.g h.p hT).mono fun _ _ q=>frO_of (sz_b h.sz n g) q
theorem oDelete (r:OmR) (A:OmA) (n g:Int) (w:World) (h:InO w r A) (hT:TabAt w):Calls Tryz.prog 16 #[ordV r A,hdV n g] w (FrO2 w (r.dR n g) (r.dE n g)):=
  (omDelete_ok r.c r.s A.sa r.gs r.ps r.mv A.ga A.pa A.gc A.pc (Nat.le_trans h.sz.w xdd) (Nat.le_trans h.sz.k xdd) (Nat.le_trans h.sz.g xdd) (Nat.le_trans h.sz.p xdd) h.cc n g w h.sl h.g h.p hT).mono fun _ _ q=>frO2_of (sz_d h.sz n g) q
theorem oLabel (r:OmR) (A:OmA) (n g:Int) (w:World) (h:InO w r A):Calls Tryz.prog 26 #[ordV r A,hdV n g] w (AnsB w (.tuple #[.int .i64 (r.lV n g),.int .i64 (r.lE n g)])):=
  omLabel_ok r.c r.s A.sa r.gs r.ps r.mv A.ga A.pa A.gc A.pc (Nat.le_trans h.sz.w xdd) (Nat.le_trans h.sz.k xdd) (Nat.le_trans h.sz.g xdd) (Nat.le_trans h.sz.p xdd) h.cc n g w h.sl h.g h.p
theorem oCompare (r:OmR) (A:OmA) (n g m k:Int) (w:World) (h:InO w r A):Calls Tryz.prog 25 #[ordV r A,hdV n g,hdV m k] w (AnsB w (.tuple #[.int .i64 (r.cV n g m k),.int .i64 (r.cE n g m k)])):=
  omCompare_ok r.c r.s A.sa r.gs r.ps r.mv A.ga A.pa A.gc A.pc (Nat.le_trans h.sz.w xdd) (Nat.le_trans h.sz.k xdd) (Nat.le_trans h.sz.g xdd) (Nat.le_trans h.sz.p xdd) h.cc n g m k w h.sl h.g h.p
theorem oList (r:OmR) (A:OmA) (w:World) (h:InO w r A):Calls Tryz.prog 21 #[ordV r A] w (FreshHd2 w r.L (.int .i64 r.E)):=
  omList_ok r.c r.s A.sa r.gs r.ps r.mv A.ga A.pa A.gc A.pc (Nat.le_trans h.sz.w xdd) (Nat.le_trans h.sz.k xdd) (Nat.le_trans h.sz.g xdd) (Nat.le_trans h.sz.p xdd) h.cc w h.sl h.g h.p
theorem oNew (c:Cfg) (w:World):Calls Tryz.prog 27 #[.agg #[.int .u8 c.tag,.int .i64 c.most,.int .i64 c.seg,.int .i64 c.least,.int .i64 c.den,.int .i64 c.ll,.int .i64 c.rl,.int .i64 c.rh,.int .i64 c.lh]] w (FrO2 w (newR c) (cfE c)):=
  (omNew_ok c w).mono fun _ _ q=>frO2_of (sz_new c) q
end
end Go.Proofs.YtjhpblejlchhjaaGreatDoor
