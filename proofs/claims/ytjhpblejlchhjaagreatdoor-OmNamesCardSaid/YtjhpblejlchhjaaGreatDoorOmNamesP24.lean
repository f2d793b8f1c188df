/- Merged: OmNmWalk. -/
import Derived.Test.YtjhpblejlchhjaaGreatDoorOmNamesP23
namespace Go.Proofs.YtjhpblejlchhjaaGreatDoor
set_option maxRecDepth 100000
set_option maxHeartbeats 40000000
set_option linter.unusedVariables false
set_option linter.unusedSimpArgs false
section
open Go.RowKit Go.Shelf Go.Sort
def nmo0:OmR:=⟨⟨1,8,4,16,8,0,1,4,8⟩,⟨4,[0],[0,0,0,0,0,0,0,0,0,0,0,0,0,0,0,0],[0,0,0,0,0,0,0,0,0,0,0,0,0,0,0,0],[0,0,0,0],0⟩,[],[],0⟩
def nmo1:OmR:=⟨⟨1,8,4,16,8,0,1,4,8⟩,⟨4,[1],[0,0,0,0,0,0,0,0,0,0,0,0,0,0,0,0],[0,0,0,0,0,0,0,0,0,0,0,0,0,0,0,0],[1,0,0,0],1⟩,[0],[0],0⟩
def nmo2:OmR:=⟨⟨1,8,4,16,8,0,1,4,8⟩,⟨4,[5],[1,0,0,0,0,0,0,0,0,0,0,0,0,0,0,0],[0,0,0,0,0,0,0,0,0,0,0,0,0,0,0,0],[2,0,0,0],3⟩,[0,0],[2,0],1⟩
def nmo3:OmR:=⟨⟨1,8,4,16,8,0,1,4,8⟩,⟨4,[7],[2,1,0,0,0,0,0,0,0,0,0,0,0,0,0,0],[0,0,0,0,0,0,0,0,0,0,0,0,0,0,0,0],[3,0,0,0],6⟩,[0,0,0],[2,1,0],2⟩
def nmo4:OmR:=⟨⟨1,8,4,16,8,0,1,4,8⟩,⟨4,[15],[3,2,1,0,0,0,0,0,0,0,0,0,0,0,0,0],[0,0,0,0,0,0,0,0,0,0,0,0,0,0,0,0],[4,0,0,0],10⟩,[0,0,0,0],[3,2,1,0],5⟩
def nmo5:OmR:=⟨⟨1,8,4,16,8,0,1,4,8⟩,⟨4,[91],[4,3,0,2,1,0,0,0,0,0,0,0,0,0,0,0],[0,0,0,0,0,0,0,0,0,0,0,0,0,0,0,0],[3,2,0,0],15⟩,[0,0,0,0,0],[6,4,3,1,0],9⟩
def nmo6:OmR:=⟨⟨1,8,4,16,8,0,1,4,8⟩,⟨4,[95],[5,4,3,2,1,0,0,0,0,0,0,0,0,0,0,0],[0,0,0,0,0,0,0,0,0,0,0,0,0,0,0,0],[4,2,0,0],19⟩,[0,0,0,0,0,0],[6,4,3,2,1,0],11⟩
def nmo7:OmR:=⟨⟨1,8,4,16,8,0,1,4,8⟩,⟨4,[10837],[6,0,5,0,4,0,3,0,0,2,0,1,0,0,0,0],[0,0,0,0,0,0,0,0,0,0,0,0,0,0,0,0],[2,2,2,1],26⟩,[0,0,0,0,0,0,0],[13,11,9,6,4,2,0],17⟩
def nmo8:OmR:=⟨⟨1,8,4,16,8,0,1,4,8⟩,⟨4,[10839],[7,6,5,0,4,0,3,0,0,2,0,1,0,0,0,0],[0,0,0,0,0,0,0,0,0,0,0,0,0,0,0,0],[3,2,2,1],29⟩,[0,0,0,0,0,0,0,0],[13,11,9,6,4,2,1,0],18⟩
def nmQ:Nat→OmR
  | 0=>nmo0
  | 1=>nmo1
  | 2=>nmo2
  | 3=>nmo3
  | 4=>nmo4
  | 5=>nmo5
  | 6=>nmo6
  | 7=>nmo7
  | _=>nmo8
theorem nm_q0:newR chO=nmo0∧cfE chO=0:=⟨by kernel_rfl,by decide +kernel⟩
theorem nm_q1:nmo0.fR=nmo1∧nmo0.fE=0∧nmo0.nN 0=0∧nmo0.nK 0=0:=⟨by kernel_rfl,by decide +kernel,by decide +kernel,by decide +kernel⟩
theorem nm_q2:nmo1.fR=nmo2∧nmo1.fE=0∧nmo1.nN 0=1∧nmo1.nK 0=0:=⟨by kernel_rfl,by decide +kernel,by decide +kernel,by decide +kernel⟩
theorem nm_q3:nmo2.fR=nmo3∧nmo2.fE=0∧nmo2.nN 0=2∧nmo2.nK 0=0:=⟨by kernel_rfl,by decide +kernel,by decide +kernel,by decide +kernel⟩
theorem nm_q4:nmo3.fR=nmo4∧nmo3.fE=0∧nmo3.nN 0=3∧nmo3.nK 0=0:=⟨by kernel_rfl,by decide +kernel,by decide +kernel,by decide +kernel⟩
theorem nm_q5:nmo4.fR=nmo5∧nmo4.fE=0∧nmo4.nN 0=4∧nmo4.nK 0=0:=⟨by kernel_rfl,by decide +kernel,by decide +kernel,by decide +kernel⟩
theorem nm_q6:nmo5.fR=nmo6∧nmo5.fE=0∧nmo5.nN 0=5∧nmo5.nK 0=0:=⟨by kernel_rfl,by decide +kernel,by decide +kernel,by decide +kernel⟩
theorem nm_q7:nmo6.fR=nmo7∧nmo6.fE=0∧nmo6.nN 0=6∧nmo6.nK 0=0:=⟨by kernel_rfl,by decide +kernel,by decide +kernel,by decide +kernel⟩
theorem nm_q8:nmo7.fR=nmo8∧nmo7.fE=0∧nmo7.nN 0=7∧nmo7.nK 0=0:=⟨by kernel_rfl,by decide +kernel,by decide +kernel,by decide +kernel⟩
theorem nm_q9:nmo8.fR=nilR∧nmo8.fE=9∧nmo8.nN 9=0∧nmo8.nK 9=0:=⟨by kernel_rfl,by decide +kernel,by decide +kernel,by decide +kernel⟩
theorem nm_qa:nmo8.aR 3 0=nilR∧nmo8.bE 3 0=9:=⟨by kernel_rfl,by decide +kernel⟩
theorem nm_qb:nmo8.bR 8 0=nilR∧nmo8.bE 8 0=140∧nmo8.nN 140=0∧nmo8.nK 140=0:=⟨by kernel_rfl,by decide +kernel,by decide +kernel,by decide +kernel⟩
theorem nm_qc:nmo8.cV 3 0 3 0=0∧nmo8.cE 3 0 3 0=0∧nmo8.cE 3 0 3 1=140∧nmo8.lV 7 0=0∧nmo8.lE 7 0=0:=⟨by decide +kernel,by decide +kernel,by decide +kernel,by decide +kernel,by decide +kernel⟩
theorem nm_qd:omE nmo8.c nmo8.s nmo8.gs (nmo8.ps.set 0 (nmo8.ps.getD 1 0))=8∧omE chO nilC [] []=8:=⟨by decide +kernel,by decide +kernel⟩
theorem nm_qn:newR ⟨0,0,0,0,0,0,0,0,0⟩=nilR∧cfE ⟨0,0,0,0,0,0,0,0,0⟩=50:=⟨by kernel_rfl,by decide +kernel⟩
theorem nil_row (k:IntKind) (W:World):IsRow k W none []:=fun i hi=>by simp at hi
theorem OmNames_walk (w:World) (hT:TabAt w):Calls Tryz.prog 7 #[] w (AnsB w (.bool true)):=
  NM_in chO nmQ (fun i=>i) (nmo8.cV 3 0 3 1) xdd w (hid chap15_ok)
    (hid fun W=>by have:=oNew chO W;rw [nm_q0.1,nm_q0.2] at this;exact this)
    (hid fun W A i hi hb h=>by
     match i,hi with
     | 0,_=>have:=oFirst nmo0 A W h (hT.below hb);rw [nm_q1.1,nm_q1.2.1,nm_q1.2.2.1,nm_q1.2.2.2] at this;exact this
     | 1,_=>have:=oFirst nmo1 A W h (hT.below hb);rw [nm_q2.1,nm_q2.2.1,nm_q2.2.2.1,nm_q2.2.2.2] at this;exact this
     | 2,_=>have:=oFirst nmo2 A W h (hT.below hb);rw [nm_q3.1,nm_q3.2.1,nm_q3.2.2.1,nm_q3.2.2.2] at this;exact this
     | 3,_=>have:=oFirst nmo3 A W h (hT.below hb);rw [nm_q4.1,nm_q4.2.1,nm_q4.2.2.1,nm_q4.2.2.2] at this;exact this
     | 4,_=>have:=oFirst nmo4 A W h (hT.below hb);rw [nm_q5.1,nm_q5.2.1,nm_q5.2.2.1,nm_q5.2.2.2] at this;exact this
     | 5,_=>have:=oFirst nmo5 A W h (hT.below hb);rw [nm_q6.1,nm_q6.2.1,nm_q6.2.2.1,nm_q6.2.2.2] at this;exact this
     | 6,_=>have:=oFirst nmo6 A W h (hT.below hb);rw [nm_q7.1,nm_q7.2.1,nm_q7.2.2.1,nm_q7.2.2.2] at this;exact this
     | 7,_=>have:=oFirst nmo7 A W h (hT.below hb);rw [nm_q8.1,nm_q8.2.1,nm_q8.2.2.1,nm_q8.2.2.2] at this;exact this
     | n+8,hn=>omega)
    (hid fun W A hb h=>by have:=oFirst nmo8 A W h (hT.below hb);rw [nm_q9.1,nm_q9.2.1,nm_q9.2.2.1,nm_q9.2.2.2] at this;exact this)
    (hid fun W A hb h=>by have:=oAfter nmo8 A 3 0 W h (hT.below hb);rw [nm_qa.1,nm_qa.2,nm_q9.2.2.1,nm_q9.2.2.2] at this;exact this)
    (hid fun W A hb h=>by have:=oBefore nmo8 A 8 0 W h (hT.below hb);rw [nm_qb.1,nm_qb.2.1,nm_qb.2.2.1,nm_qb.2.2.2] at this;exact this)
    (hid fun W A hb h=>by have:=oCompare nmo8 A 3 0 3 0 W h;rw [nm_qc.1,nm_qc.2.1] at this;exact this)
    (hid fun W A hb h=>by have:=oCompare nmo8 A 3 0 3 1 W h;rw [nm_qc.2.2.1] at this;exact this)
    (hid fun W A hb h=>by have:=oLabel nmo8 A 7 0 W h;rw [nm_qc.2.2.2.1,nm_qc.2.2.2.2] at this;exact this)
    (hid fun W A hb h=>oTwinN nmo8 A W h ⟨by decide,by decide,by decide,by decide⟩)
    (hid fun W=>by have:=oNew ⟨0,0,0,0,0,0,0,0,0⟩ W;rw [nm_qn.1,nm_qn.2] at this;exact this)
    (hid fun W hb=>alive15_ok W (hT.below hb))
    (hid fun W A hb sl cc hg hp=>by
     have:=omCheck_ok nmo8.c nmo8.s A.sa nmo8.gs (nmo8.ps.set 0 (nmo8.ps.getD 1 0)) nmo8.mv A.ga A.pa A.gc A.pc xdd xdd xdd xdd cc W sl hg hp;rw [nm_qd.1] at this;exact this)
    (hid fun W=>by
     have:=omCheck_ok chO nilC ⟨none,none,none,none,0,0,0,0⟩ [] [] 0 none none 0 0 xdd xdd xdd xdd xdd W ⟨nil_row _ _,nil_row _ _,nil_row _ _,nil_row _ _,nil_u⟩ (nil_row _ _) (nil_row _ _);rw [nm_qd.2] at this;exact this)
end
end Go.Proofs.YtjhpblejlchhjaaGreatDoor
