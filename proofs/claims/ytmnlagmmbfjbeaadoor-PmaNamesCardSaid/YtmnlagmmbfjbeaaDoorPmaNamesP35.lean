/- Merged: PmNmWalk. -/
import Derived.Test.YtmnlagmmbfjbeaaDoorPmaNamesP34
import Derived.Test.YtmnlagmmbfjbeaaDoorPmaNamesP32
import Derived.Test.YtmnlagmmbfjbeaaDoorPmaNamesP22
namespace Go.Proofs.YtmnlagmmbfjbeaaDoor
set_option maxRecDepth 100000
set_option maxHeartbeats 40000000
set_option linter.unusedVariables false
set_option linter.unusedSimpArgs false
section
open Go.RowKit
def nmS:Nat→SlC
  | 0=>⟨4,[0],[0,0,0,0,0,0,0,0,0,0,0,0,0,0,0,0],[0,0,0,0,0,0,0,0,0,0,0,0,0,0,0,0],[0,0,0,0],0⟩
  | 1=>⟨4,[1],[0,0,0,0,0,0,0,0,0,0,0,0,0,0,0,0],[7,0,0,0,0,0,0,0,0,0,0,0,0,0,0,0],[1,0,0,0],1⟩
  | 2=>⟨4,[5],[0,0,3,0,0,0,0,0,0,0,0,0,0,0,0,0],[7,0,7,0,0,0,0,0,0,0,0,0,0,0,0,0],[2,0,0,0],3⟩
  | 3=>⟨4,[7],[0,3,6,0,0,0,0,0,0,0,0,0,0,0,0,0],[7,7,7,0,0,0,0,0,0,0,0,0,0,0,0,0],[3,0,0,0],6⟩
  | 4=>⟨4,[15],[0,1,3,6,0,0,0,0,0,0,0,0,0,0,0,0],[7,7,7,7,0,0,0,0,0,0,0,0,0,0,0,0],[4,0,0,0],10⟩
  | 5=>⟨4,[91],[0,1,0,3,4,0,6,0,0,0,0,0,0,0,0,0],[7,7,0,7,7,0,7,0,0,0,0,0,0,0,0,0],[3,2,0,0],15⟩
  | 6=>⟨4,[123],[0,1,0,3,4,6,7,0,0,0,0,0,0,0,0,0],[7,7,0,7,7,7,7,0,0,0,0,0,0,0,0,0],[3,3,0,0],18⟩
  | 7=>⟨4,[10837],[0,0,1,0,2,0,3,0,0,4,0,6,0,7,0,0],[7,0,7,0,7,0,7,0,0,7,0,7,0,7,0,0],[2,2,2,1],25⟩
  | 8=>⟨4,[10069],[0,0,1,0,2,0,3,0,4,5,6,0,0,7,0,0],[7,0,7,0,7,0,7,0,7,7,7,0,0,7,0,0],[2,2,3,1],28⟩
  | _=>nilC
def nmX:SlC:=⟨4,[10069],[0,0,1,0,2,0,3,0,4,5,6,0,0,7,0,0],[7,0,7,0,7,0,7,0,7,7,7,0,0,1,0,0],[2,2,3,1],29⟩
def nmY:SlC:=⟨(nmS 8).seg,(nmS 8).ws,chgL (nmS 8).ks.length (nmS 8).ks,(nmS 8).vs,(nmS 8).cs,(nmS 8).laid⟩
theorem slC_eq {a b:SlC} (h:a.seg=b.seg∧a.ws=b.ws∧a.ks=b.ks∧a.vs=b.vs∧a.cs=b.cs∧a.laid=b.laid):a=b:=by
 obtain ⟨h1,h2,h3,h4,h5,h6⟩:=h;cases a;cases b;simp_all
theorem nm_new:newC chG=nmS 0:=slC_eq (by decide +kernel)
theorem nm_next:∀i,i<8→pPutC chG (nmS i) ((3*(i:Int))%8) 7=nmS (i+1)
  | 0,_=>slC_eq (by decide +kernel)
  | 1,_=>slC_eq (by decide +kernel)
  | 2,_=>slC_eq (by decide +kernel)
  | 3,_=>slC_eq (by decide +kernel)
  | 4,_=>slC_eq (by decide +kernel)
  | 5,_=>slC_eq (by decide +kernel)
  | 6,_=>slC_eq (by decide +kernel)
  | 7,_=>slC_eq (by decide +kernel)
  | n+8,h=>absurd h xo
theorem nm_x:pPutC chG (nmS 8) 7 1=nmX:=slC_eq (by decide +kernel)
theorem u64_one {x:Int} (h:0≤x∧x<18446744073709551616):U64s [x]:=fun y hy=>by rw [List.mem_singleton.1 hy];exact h
theorem nmS_num:∀i,(nmS i).ws.length≤1000000∧(nmS i).ks.length≤1000000∧(nmS i).vs.length≤1000000∧(nmS i).cs.length≤1000000∧U64s (nmS i).ws
  | 0=>⟨by decide,by decide,by decide,by decide,u64_one xdd⟩
  | 1=>⟨by decide,by decide,by decide,by decide,u64_one xdd⟩
  | 2=>⟨by decide,by decide,by decide,by decide,u64_one xdd⟩
  | 3=>⟨by decide,by decide,by decide,by decide,u64_one xdd⟩
  | 4=>⟨by decide,by decide,by decide,by decide,u64_one xdd⟩
  | 5=>⟨by decide,by decide,by decide,by decide,u64_one xdd⟩
  | 6=>⟨by decide,by decide,by decide,by decide,u64_one xdd⟩
  | 7=>⟨by decide,by decide,by decide,by decide,u64_one xdd⟩
  | 8=>⟨by decide,by decide,by decide,by decide,u64_one xdd⟩
  | n+9=>nil_nums
theorem nm_put:∀i,i<8→pPutE chG (nmS i) ((3*(i:Int))%8)=0:=by decide +kernel
theorem nm_says:pPutE chG (nmS 8) 8=9∧pPutE chG (nmS 8) 7=0∧pDelE chG (nmS 8) 8=6∧ansB (szV chG (nmS 8)) 0 8=true∧ansB (getPV chG nmX 7) 0 1=true∧ansB (szV chG nmX) 0 8=true∧pmE chG nmY=130∧pmE nilF nilC=50∧pmE chG nilC=8∧cfE nilF=50∧(nmS 8).ks.length=16∧cfE chG=0:=by decide +kernel
theorem nm_may:cfMay chG=true∧cfMay nilF=false:=by decide +kernel
theorem nil_in (W:World):SlIn W nilC ⟨none,none,none,none,0,0,0,0⟩:=
  ⟨fun i hi=>absurd hi (Nat.not_lt_zero i),fun i hi=>absurd hi (Nat.not_lt_zero i),fun i hi=>absurd hi (Nat.not_lt_zero i),fun i hi=>absurd hi (Nat.not_lt_zero i),fun x hx=>by cases hx⟩
theorem PmaNames_walk (w:World) (hT:TabAt w):Calls Tryd.prog 5 #[] w (AnsB w (.bool true)):=by
 obtain ⟨h1,h2,h3,h4,h5,h6,h7,h8,h9,h10,h11,h12⟩:=nm_says;have n8:=nmS_num 8;have nx:nmX.ws.length≤1000000∧nmX.ks.length≤1000000∧nmX.vs.length≤1000000∧nmX.cs.length≤1000000∧U64s nmX.ws:=⟨by decide,by decide,by decide,by decide,u64_one xdd⟩
 have ey:∀a:SlA,pmV chG nmY a=pmV chG (nmS 8) a:=fun a=>by
  unfold pmV;rw [show nmY.ks.length=(nmS 8).ks.length from chgL_length _ _];rfl
 have yl:nmY.ks.length≤1000000:=by rw [show nmY.ks.length=(nmS 8).ks.length from chgL_length _ _];exact n8.2.1
 have yw:nmY.ws.length≤1000000:=n8.1;exact PN_in chG nmS nmX (fun i=>(nmS_num i).2.2.2.2) nx.2.2.2.2 xo w
   (hid fun W=>chap11_ok W)
   (hid fun W=>by have:=pmaNew_ok chG W;rw [h12,show newF chG=chG from if_pos nm_may.1,nm_new] at this;exact this)
   (hid fun W a i kk hi hk hb hin hc=>by
    have n:=nmS_num i;have:=pmaPut_ok chG (nmS i) a kk 7 xo xo hc W hin (hT.below hb);have e:=nm_put i hi;rw [hk] at e;rw [pPutF,if_pos e,e] at this;have e2:=nm_next i hi;rw [hk] at e2;rw [e2] at this;exact this)
   (hid fun W a hb hin hc=>by have:=pmaPut_ok chG (nmS 8) a 8 1 xo xo hc W hin (hT.below hb);rw [pPutF,pPutC,h1,if_neg xdd,if_neg xdd] at this;exact this)
   (hid fun W a hb hin hc=>by have:=pmaPut_ok chG (nmS 8) a 7 1 xo xo hc W hin (hT.below hb);rw [pPutF,if_pos h2,h2,nm_x] at this;exact this)
   (hid fun W a hb hin hc=>by have:=pmaDel_ok chG (nmS 8) a 8 xo xo hc W hin (hT.below hb);rw [pDelF,pDelC,h3,if_neg xdd,if_neg xdd] at this;exact this)
   (hid fun W a hb hin hc=>pmaTwin_ok chG (nmS 8) a.wa a.ka a.va a.ca a.wc a.kc a.vc a.cc W (hid fun W' hb'=>slTwin_ok (nmS 8) a W' (hin.below hb') xdd xdd xdd xdd))
   (hid fun W=>by have:=pmaNew_ok nilF W;rw [h10,show newF nilF=nilF from if_neg (by rw [nm_may.2];decide),show newC nilF=nilC from if_neg (by rw [nm_may.2];decide)] at this;exact this)
   (hid fun W hb=>alive11_ok W (hT.below hb))
   (hid fun W a hb hin hc=>by have:=size11_ok chG (nmS 8) a 8 xo xo hc W hin;rw [h4] at this;exact this)
   (hid fun W a hb hin hc=>by have:=got11_ok chG nmX a 7 1 (Nat.le_trans nx.1 xdd) (Nat.le_trans nx.2.1 xdd) hc W hin (hT.below hb);rw [h5] at this;exact this)
   (hid fun W a hb hin hc=>by have:=size11_ok chG nmX a 8 (Nat.le_trans nx.1 xdd) (Nat.le_trans nx.2.1 xdd) hc W hin;rw [h6] at this;exact this)
   (hid fun W a hb hin hc=>by have:=pmaCheck_ok chG nmY a xo xo hc W hin;rw [h7,ey] at this;exact this)
   (hid fun W=>by have:=pmaCheck_ok nilF nilC ⟨none,none,none,none,0,0,0,0⟩ xdd xdd xdd W (nil_in W);rw [h8] at this;exact this)
   (hid fun W=>by have:=pmaCheck_ok chG nilC ⟨none,none,none,none,0,0,0,0⟩ xdd xdd xdd W (nil_in W);rw [h9] at this;exact this)
end
end Go.Proofs.YtmnlagmmbfjbeaaDoor
