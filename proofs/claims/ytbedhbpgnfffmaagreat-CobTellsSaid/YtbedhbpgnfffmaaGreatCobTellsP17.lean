/- Merged: PmSm, CbRaw. -/
import Derived.Test.YtbedhbpgnfffmaaGreatCobTellsP15
import Derived.Test.YtbedhbpgnfffmaaGreatCobTellsP16
import Derived.Test.YtbedhbpgnfffmaaGreatCobTellsP13
namespace Go.Proofs.YtbedhbpgnfffmaaGreat
set_option maxRecDepth 100000
set_option maxHeartbeats 40000000
set_option linter.unusedVariables false
set_option linter.unusedSimpArgs false
section
open Go.RowKit
def cfB (c d:Cfg):Bool:=decide (c.tag=d.tag)&&(decide (c.most=d.most)&&(decide (c.seg=d.seg)&&(decide (c.least=d.least)&&(decide (c.den=d.den)&&(decide (c.ll=d.ll)&&(decide (c.rl=d.rl)&&(decide (c.rh=d.rh)&&(decide (c.lh=d.lh)))))))))
def pmB (c:Cfg) (s:SlC) (d:Cfg) (t:SlC):Bool:=cfB c d&&sameB s t
theorem Sm11_p0 (c d:Cfg) (s t:SlC) (wa ka va ca:Option Addr) (wc kc vc cc:Nat) (wa' ka' va' ca':Option Addr) (wc' kc' vc' cc':Nat) (w:World) (g0:(c.tag==d.tag)=false):
    Calls Tryz.prog 47 #[.agg #[.int .u8 c.tag,.int .i64 c.most,.int .i64 c.seg,.int .i64 c.least,.int .i64 c.den,.int .i64 c.ll,.int .i64 c.rl,.int .i64 c.rh,.int .i64 c.lh,.int .i64 s.seg,.slice wa s.ws.length wc,.slice ka s.ks.length kc,.slice va s.vs.length vc,.slice ca s.cs.length cc,.int .u64 s.laid],.agg #[.int .u8 d.tag,.int .i64 d.most,.int .i64 d.seg,.int .i64 d.least,.int .i64 d.den,.int .i64 d.ll,.int .i64 d.rl,.int .i64 d.rh,.int .i64 d.lh,.int .i64 t.seg,.slice wa' t.ws.length wc',.slice ka' t.ks.length kc',.slice va' t.vs.length vc',.slice ca' t.cs.length cc',.int .u64 t.laid]] w (AnsB w (.bool false)):=by
 go_enter Tryz.func47,Tryz.ntmps47
 have hB0:Below w.heap.size w ((w.alloc (.cells #[.int .u8 c.tag,.int .i64 c.most,.int .i64 c.seg,.int .i64 c.least,.int .i64 c.den,.int .i64 c.ll,.int .i64 c.rl,.int .i64 c.rh,.int .i64 c.lh,.int .i64 s.seg,.slice wa s.ws.length wc,.slice ka s.ks.length kc,.slice va s.vs.length vc,.slice ca s.cs.length cc,.int .u64 s.laid] 31)).alloc (.cells #[.int .u8 d.tag,.int .i64 d.most,.int .i64 d.seg,.int .i64 d.least,.int .i64 d.den,.int .i64 d.ll,.int .i64 d.rl,.int .i64 d.rh,.int .i64 d.lh,.int .i64 t.seg,.slice wa' t.ws.length wc',.slice ka' t.ks.length kc',.slice va' t.vs.length vc',.slice ca' t.cs.length cc',.int .u64 t.laid] 31)):=xbel;go_wp2
 go_ret
 exact ⟨rfl,hB0⟩
theorem Sm11_p1 (c d:Cfg) (s t:SlC) (wa ka va ca:Option Addr) (wc kc vc cc:Nat) (wa' ka' va' ca':Option Addr) (wc' kc' vc' cc':Nat) (w:World) (g0:(c.tag==d.tag)=true) (g1:(c.most==d.most)=false):
    Calls Tryz.prog 47 #[.agg #[.int .u8 c.tag,.int .i64 c.most,.int .i64 c.seg,.int .i64 c.least,.int .i64 c.den,.int .i64 c.ll,.int .i64 c.rl,.int .i64 c.rh,.int .i64 c.lh,.int .i64 s.seg,.slice wa s.ws.length wc,.slice ka s.ks.length kc,.slice va s.vs.length vc,.slice ca s.cs.length cc,.int .u64 s.laid],.agg #[.int .u8 d.tag,.int .i64 d.most,.int .i64 d.seg,.int .i64 d.least,.int .i64 d.den,.int .i64 d.ll,.int .i64 d.rl,.int .i64 d.rh,.int .i64 d.lh,.int .i64 t.seg,.slice wa' t.ws.length wc',.slice ka' t.ks.length kc',.slice va' t.vs.length vc',.slice ca' t.cs.length cc',.int .u64 t.laid]] w (AnsB w (.bool false)):=by
 go_enter Tryz.func47,Tryz.ntmps47
 have hB0:Below w.heap.size w ((w.alloc (.cells #[.int .u8 c.tag,.int .i64 c.most,.int .i64 c.seg,.int .i64 c.least,.int .i64 c.den,.int .i64 c.ll,.int .i64 c.rl,.int .i64 c.rh,.int .i64 c.lh,.int .i64 s.seg,.slice wa s.ws.length wc,.slice ka s.ks.length kc,.slice va s.vs.length vc,.slice ca s.cs.length cc,.int .u64 s.laid] 31)).alloc (.cells #[.int .u8 d.tag,.int .i64 d.most,.int .i64 d.seg,.int .i64 d.least,.int .i64 d.den,.int .i64 d.ll,.int .i64 d.rl,.int .i64 d.rh,.int .i64 d.lh,.int .i64 t.seg,.slice wa' t.ws.length wc',.slice ka' t.ks.length kc',.slice va' t.vs.length vc',.slice ca' t.cs.length cc',.int .u64 t.laid] 31)):=xbel;go_wp2
 go_ret
 exact ⟨rfl,hB0⟩
theorem Sm11_p2 (c d:Cfg) (s t:SlC) (wa ka va ca:Option Addr) (wc kc vc cc:Nat) (wa' ka' va' ca':Option Addr) (wc' kc' vc' cc':Nat) (w:World) (g0:(c.tag==d.tag)=true) (g1:(c.most==d.most)=true) (g2:(c.seg==d.seg)=false):
    Calls Tryz.prog 47 #[.agg #[.int .u8 c.tag,.int .i64 c.most,.int .i64 c.seg,.int .i64 c.least,.int .i64 c.den,.int .i64 c.ll,.int .i64 c.rl,.int .i64 c.rh,.int .i64 c.lh,.int .i64 s.seg,.slice wa s.ws.length wc,.slice ka s.ks.length kc,.slice va s.vs.length vc,.slice ca s.cs.length cc,.int .u64 s.laid],.agg #[.int .u8 d.tag,.int .i64 d.most,.int .i64 d.seg,.int .i64 d.least,.int .i64 d.den,.int .i64 d.ll,.int .i64 d.rl,.int .i64 d.rh,.int .i64 d.lh,.int .i64 t.seg,.slice wa' t.ws.length wc',.slice ka' t.ks.length kc',.slice va' t.vs.length vc',.slice ca' t.cs.length cc',.int .u64 t.laid]] w (AnsB w (.bool false)):=by
 go_enter Tryz.func47,Tryz.ntmps47
 have hB0:Below w.heap.size w ((w.alloc (.cells #[.int .u8 c.tag,.int .i64 c.most,.int .i64 c.seg,.int .i64 c.least,.int .i64 c.den,.int .i64 c.ll,.int .i64 c.rl,.int .i64 c.rh,.int .i64 c.lh,.int .i64 s.seg,.slice wa s.ws.length wc,.slice ka s.ks.length kc,.slice va s.vs.length vc,.slice ca s.cs.length cc,.int .u64 s.laid] 31)).alloc (.cells #[.int .u8 d.tag,.int .i64 d.most,.int .i64 d.seg,.int .i64 d.least,.int .i64 d.den,.int .i64 d.ll,.int .i64 d.rl,.int .i64 d.rh,.int .i64 d.lh,.int .i64 t.seg,.slice wa' t.ws.length wc',.slice ka' t.ks.length kc',.slice va' t.vs.length vc',.slice ca' t.cs.length cc',.int .u64 t.laid] 31)):=xbel;go_wp2
 go_ret
 exact ⟨rfl,hB0⟩
theorem Sm11_p3 (c d:Cfg) (s t:SlC) (wa ka va ca:Option Addr) (wc kc vc cc:Nat) (wa' ka' va' ca':Option Addr) (wc' kc' vc' cc':Nat) (w:World) (g0:(c.tag==d.tag)=true) (g1:(c.most==d.most)=true) (g2:(c.seg==d.seg)=true) (g3:(c.least==d.least)=false):
    Calls Tryz.prog 47 #[.agg #[.int .u8 c.tag,.int .i64 c.most,.int .i64 c.seg,.int .i64 c.least,.int .i64 c.den,.int .i64 c.ll,.int .i64 c.rl,.int .i64 c.rh,.int .i64 c.lh,.int .i64 s.seg,.slice wa s.ws.length wc,.slice ka s.ks.length kc,.slice va s.vs.length vc,.slice ca s.cs.length cc,.int .u64 s.laid],.agg #[.int .u8 d.tag,.int .i64 d.most,.int .i64 d.seg,.int .i64 d.least,.int .i64 d.den,.int .i64 d.ll,.int .i64 d.rl,.int .i64 d.rh,.int .i64 d.lh,.int .i64 t.seg,.slice wa' t.ws.length wc',.slice ka' t.ks.length kc',.slice va' t.vs.length vc',.slice ca' t.cs.length cc',.int .u64 t.laid]] w (AnsB w (.bool false)):=by
 go_enter Tryz.func47,Tryz.ntmps47
 have hB0:Below w.heap.size w ((w.alloc (.cells #[.int .u8 c.tag,.int .i64 c.most,.int .i64 c.seg,.int .i64 c.least,.int .i64 c.den,.int .i64 c.ll,.int .i64 c.rl,.int .i64 c.rh,.int .i64 c.lh,.int .i64 s.seg,.slice wa s.ws.length wc,.slice ka s.ks.length kc,.slice va s.vs.length vc,.slice ca s.cs.length cc,.int .u64 s.laid] 31)).alloc (.cells #[.int .u8 d.tag,.int .i64 d.most,.int .i64 d.seg,.int .i64 d.least,.int .i64 d.den,.int .i64 d.ll,.int .i64 d.rl,.int .i64 d.rh,.int .i64 d.lh,.int .i64 t.seg,.slice wa' t.ws.length wc',.slice ka' t.ks.length kc',.slice va' t.vs.length vc',.slice ca' t.cs.length cc',.int .u64 t.laid] 31)):=xbel;go_wp2
 go_ret
 exact ⟨rfl,hB0⟩
theorem Sm11_p4 (c d:Cfg) (s t:SlC) (wa ka va ca:Option Addr) (wc kc vc cc:Nat) (wa' ka' va' ca':Option Addr) (wc' kc' vc' cc':Nat) (w:World) (g0:(c.tag==d.tag)=true) (g1:(c.most==d.most)=true) (g2:(c.seg==d.seg)=true) (g3:(c.least==d.least)=true) (g4:(c.den==d.den)=false):
    Calls Tryz.prog 47 #[.agg #[.int .u8 c.tag,.int .i64 c.most,.int .i64 c.seg,.int .i64 c.least,.int .i64 c.den,.int .i64 c.ll,.int .i64 c.rl,.int .i64 c.rh,.int .i64 c.lh,.int .i64 s.seg,.slice wa s.ws.length wc,.slice ka s.ks.length kc,.slice va s.vs.length vc,.slice ca s.cs.length cc,.int .u64 s.laid],.agg #[.int .u8 d.tag,.int .i64 d.most,.int .i64 d.seg,.int .i64 d.least,.int .i64 d.den,.int .i64 d.ll,.int .i64 d.rl,.int .i64 d.rh,.int .i64 d.lh,.int .i64 t.seg,.slice wa' t.ws.length wc',.slice ka' t.ks.length kc',.slice va' t.vs.length vc',.slice ca' t.cs.length cc',.int .u64 t.laid]] w (AnsB w (.bool false)):=by
 go_enter Tryz.func47,Tryz.ntmps47
 have hB0:Below w.heap.size w ((w.alloc (.cells #[.int .u8 c.tag,.int .i64 c.most,.int .i64 c.seg,.int .i64 c.least,.int .i64 c.den,.int .i64 c.ll,.int .i64 c.rl,.int .i64 c.rh,.int .i64 c.lh,.int .i64 s.seg,.slice wa s.ws.length wc,.slice ka s.ks.length kc,.slice va s.vs.length vc,.slice ca s.cs.length cc,.int .u64 s.laid] 31)).alloc (.cells #[.int .u8 d.tag,.int .i64 d.most,.int .i64 d.seg,.int .i64 d.least,.int .i64 d.den,.int .i64 d.ll,.int .i64 d.rl,.int .i64 d.rh,.int .i64 d.lh,.int .i64 t.seg,.slice wa' t.ws.length wc',.slice ka' t.ks.length kc',.slice va' t.vs.length vc',.slice ca' t.cs.length cc',.int .u64 t.laid] 31)):=xbel;go_wp2
 go_ret
 exact ⟨rfl,hB0⟩
theorem Sm11_p5 (c d:Cfg) (s t:SlC) (wa ka va ca:Option Addr) (wc kc vc cc:Nat) (wa' ka' va' ca':Option Addr) (wc' kc' vc' cc':Nat) (w:World) (g0:(c.tag==d.tag)=true) (g1:(c.most==d.most)=true) (g2:(c.seg==d.seg)=true) (g3:(c.least==d.least)=true) (g4:(c.den==d.den)=true) (g5:(c.ll==d.ll)=false):
    Calls Tryz.prog 47 #[.agg #[.int .u8 c.tag,.int .i64 c.most,.int .i64 c.seg,.int .i64 c.least,.int .i64 c.den,.int .i64 c.ll,.int .i64 c.rl,.int .i64 c.rh,.int .i64 c.lh,.int .i64 s.seg,.slice wa s.ws.length wc,.slice ka s.ks.length kc,.slice va s.vs.length vc,.slice ca s.cs.length cc,.int .u64 s.laid],.agg #[.int .u8 d.tag,.int .i64 d.most,.int .i64 d.seg,.int .i64 d.least,.int .i64 d.den,.int .i64 d.ll,.int .i64 d.rl,.int .i64 d.rh,.int .i64 d.lh,.int .i64 t.seg,.slice wa' t.ws.length wc',.slice ka' t.ks.length kc',.slice va' t.vs.length vc',.slice ca' t.cs.length cc',.int .u64 t.laid]] w (AnsB w (.bool false)):=by
 go_enter Tryz.func47,Tryz.ntmps47
 have hB0:Below w.heap.size w ((w.alloc (.cells #[.int .u8 c.tag,.int .i64 c.most,.int .i64 c.seg,.int .i64 c.least,.int .i64 c.den,.int .i64 c.ll,.int .i64 c.rl,.int .i64 c.rh,.int .i64 c.lh,.int .i64 s.seg,.slice wa s.ws.length wc,.slice ka s.ks.length kc,.slice va s.vs.length vc,.slice ca s.cs.length cc,.int .u64 s.laid] 31)).alloc (.cells #[.int .u8 d.tag,.int .i64 d.most,.int .i64 d.seg,.int .i64 d.least,.int .i64 d.den,.int .i64 d.ll,.int .i64 d.rl,.int .i64 d.rh,.int .i64 d.lh,.int .i64 t.seg,.slice wa' t.ws.length wc',.slice ka' t.ks.length kc',.slice va' t.vs.length vc',.slice ca' t.cs.length cc',.int .u64 t.laid] 31)):=xbel;go_wp2
 go_ret
 exact ⟨rfl,hB0⟩
theorem Sm11_p6 (c d:Cfg) (s t:SlC) (wa ka va ca:Option Addr) (wc kc vc cc:Nat) (wa' ka' va' ca':Option Addr) (wc' kc' vc' cc':Nat) (w:World) (g0:(c.tag==d.tag)=true) (g1:(c.most==d.most)=true) (g2:(c.seg==d.seg)=true) (g3:(c.least==d.least)=true) (g4:(c.den==d.den)=true) (g5:(c.ll==d.ll)=true) (g6:(c.rl==d.rl)=false):
    Calls Tryz.prog 47 #[.agg #[.int .u8 c.tag,.int .i64 c.most,.int .i64 c.seg,.int .i64 c.least,.int .i64 c.den,.int .i64 c.ll,.int .i64 c.rl,.int .i64 c.rh,.int .i64 c.lh,.int .i64 s.seg,.slice wa s.ws.length wc,.slice ka s.ks.length kc,.slice va s.vs.length vc,.slice ca s.cs.length cc,.int .u64 s.laid],.agg #[.int .u8 d.tag,.int .i64 d.most,.int .i64 d.seg,.int .i64 d.least,.int .i64 d.den,.int .i64 d.ll,.int .i64 d.rl,.int .i64 d.rh,.int .i64 d.lh,.int .i64 t.seg,.slice wa' t.ws.length wc',.slice ka' t.ks.length kc',.slice va' t.vs.length vc',.slice ca' t.cs.length cc',.int .u64 t.laid]] w (AnsB w (.bool false)):=by
 go_enter Tryz.func47,Tryz.ntmps47
 have hB0:Below w.heap.size w ((w.alloc (.cells #[.int .u8 c.tag,.int .i64 c.most,.int .i64 c.seg,.int .i64 c.least,.int .i64 c.den,.int .i64 c.ll,.int .i64 c.rl,.int .i64 c.rh,.int .i64 c.lh,.int .i64 s.seg,.slice wa s.ws.length wc,.slice ka s.ks.length kc,.slice va s.vs.length vc,.slice ca s.cs.length cc,.int .u64 s.laid] 31)).alloc (.cells #[.int .u8 d.tag,.int .i64 d.most,.int .i64 d.seg,.int .i64 d.least,.int .i64 d.den,.int .i64 d.ll,.int .i64 d.rl,.int .i64 d.rh,.int .i64 d.lh,.int .i64 t.seg,.slice wa' t.ws.length wc',.slice ka' t.ks.length kc',.slice va' t.vs.length vc',.slice ca' t.cs.length cc',.int .u64 t.laid] 31)):=xbel;go_wp2
 go_ret
 exact ⟨rfl,hB0⟩
theorem Sm11_p7 (c d:Cfg) (s t:SlC) (wa ka va ca:Option Addr) (wc kc vc cc:Nat) (wa' ka' va' ca':Option Addr) (wc' kc' vc' cc':Nat) (w:World) (g0:(c.tag==d.tag)=true) (g1:(c.most==d.most)=true) (g2:(c.seg==d.seg)=true) (g3:(c.least==d.least)=true) (g4:(c.den==d.den)=true) (g5:(c.ll==d.ll)=true) (g6:(c.rl==d.rl)=true) (g7:(c.rh==d.rh)=false):
    Calls Tryz.prog 47 #[.agg #[.int .u8 c.tag,.int .i64 c.most,.int .i64 c.seg,.int .i64 c.least,.int .i64 c.den,.int .i64 c.ll,.int .i64 c.rl,.int .i64 c.rh,.int .i64 c.lh,.int .i64 s.seg,.slice wa s.ws.length wc,.slice ka s.ks.length kc,.slice va s.vs.length vc,.slice ca s.cs.length cc,.int .u64 s.laid],.agg #[.int .u8 d.tag,.int .i64 d.most,.int .i64 d.seg,.int .i64 d.least,.int .i64 d.den,.int .i64 d.ll,.int .i64 d.rl,.int .i64 d.rh,.int .i64 d.lh,.int .i64 t.seg,.slice wa' t.ws.length wc',.slice ka' t.ks.length kc',.slice va' t.vs.length vc',.slice ca' t.cs.length cc',.int .u64 t.laid]] w (AnsB w (.bool false)):=by
 go_enter Tryz.func47,Tryz.ntmps47
 have hB0:Below w.heap.size w ((w.alloc (.cells #[.int .u8 c.tag,.int .i64 c.most,.int .i64 c.seg,.int .i64 c.least,.int .i64 c.den,.int .i64 c.ll,.int .i64 c.rl,.int .i64 c.rh,.int .i64 c.lh,.int .i64 s.seg,.slice wa s.ws.length wc,.slice ka s.ks.length kc,.slice va s.vs.length vc,.slice ca s.cs.length cc,.int .u64 s.laid] 31)).alloc (.cells #[.int .u8 d.tag,.int .i64 d.most,.int .i64 d.seg,.int .i64 d.least,.int .i64 d.den,.int .i64 d.ll,.int .i64 d.rl,.int .i64 d.rh,.int .i64 d.lh,.int .i64 t.seg,.slice wa' t.ws.length wc',.slice ka' t.ks.length kc',.slice va' t.vs.length vc',.slice ca' t.cs.length cc',.int .u64 t.laid] 31)):=xbel;go_wp2
 go_ret
 exact ⟨rfl,hB0⟩
theorem Sm11_p8 (c d:Cfg) (s t:SlC) (wa ka va ca:Option Addr) (wc kc vc cc:Nat) (wa' ka' va' ca':Option Addr) (wc' kc' vc' cc':Nat) (w:World) (g0:(c.tag==d.tag)=true) (g1:(c.most==d.most)=true) (g2:(c.seg==d.seg)=true) (g3:(c.least==d.least)=true) (g4:(c.den==d.den)=true) (g5:(c.ll==d.ll)=true) (g6:(c.rl==d.rl)=true) (g7:(c.rh==d.rh)=true) (g8:(c.lh==d.lh)=false):
    Calls Tryz.prog 47 #[.agg #[.int .u8 c.tag,.int .i64 c.most,.int .i64 c.seg,.int .i64 c.least,.int .i64 c.den,.int .i64 c.ll,.int .i64 c.rl,.int .i64 c.rh,.int .i64 c.lh,.int .i64 s.seg,.slice wa s.ws.length wc,.slice ka s.ks.length kc,.slice va s.vs.length vc,.slice ca s.cs.length cc,.int .u64 s.laid],.agg #[.int .u8 d.tag,.int .i64 d.most,.int .i64 d.seg,.int .i64 d.least,.int .i64 d.den,.int .i64 d.ll,.int .i64 d.rl,.int .i64 d.rh,.int .i64 d.lh,.int .i64 t.seg,.slice wa' t.ws.length wc',.slice ka' t.ks.length kc',.slice va' t.vs.length vc',.slice ca' t.cs.length cc',.int .u64 t.laid]] w (AnsB w (.bool false)):=by
 go_enter Tryz.func47,Tryz.ntmps47
 have hB0:Below w.heap.size w ((w.alloc (.cells #[.int .u8 c.tag,.int .i64 c.most,.int .i64 c.seg,.int .i64 c.least,.int .i64 c.den,.int .i64 c.ll,.int .i64 c.rl,.int .i64 c.rh,.int .i64 c.lh,.int .i64 s.seg,.slice wa s.ws.length wc,.slice ka s.ks.length kc,.slice va s.vs.length vc,.slice ca s.cs.length cc,.int .u64 s.laid] 31)).alloc (.cells #[.int .u8 d.tag,.int .i64 d.most,.int .i64 d.seg,.int .i64 d.least,.int .i64 d.den,.int .i64 d.ll,.int .i64 d.rl,.int .i64 d.rh,.int .i64 d.lh,.int .i64 t.seg,.slice wa' t.ws.length wc',.slice ka' t.ks.length kc',.slice va' t.vs.length vc',.slice ca' t.cs.length cc',.int .u64 t.laid] 31)):=xbel;go_wp2
 go_ret
 exact ⟨rfl,hB0⟩
theorem Sm11_p9 (c d:Cfg) (s t:SlC) (wa ka va ca:Option Addr) (wc kc vc cc:Nat) (wa' ka' va' ca':Option Addr) (wc' kc' vc' cc':Nat) (w:World) (g0:(c.tag==d.tag)=true) (g1:(c.most==d.most)=true) (g2:(c.seg==d.seg)=true) (g3:(c.least==d.least)=true) (g4:(c.den==d.den)=true) (g5:(c.ll==d.ll)=true) (g6:(c.rl==d.rl)=true) (g7:(c.rh==d.rh)=true) (g8:(c.lh==d.lh)=true) (b:Bool) (SM:Hid (∀W,Below w.heap.size w W→Calls Tryz.prog 77 #[.agg #[.int .i64 s.seg,.slice wa s.ws.length wc,.slice ka s.ks.length kc,.slice va s.vs.length vc,.slice ca s.cs.length cc,.int .u64 s.laid],.agg #[.int .i64 t.seg,.slice wa' t.ws.length wc',.slice ka' t.ks.length kc',.slice va' t.vs.length vc',.slice ca' t.cs.length cc',.int .u64 t.laid]] W (AnsB W (.bool b)))):
    Calls Tryz.prog 47 #[.agg #[.int .u8 c.tag,.int .i64 c.most,.int .i64 c.seg,.int .i64 c.least,.int .i64 c.den,.int .i64 c.ll,.int .i64 c.rl,.int .i64 c.rh,.int .i64 c.lh,.int .i64 s.seg,.slice wa s.ws.length wc,.slice ka s.ks.length kc,.slice va s.vs.length vc,.slice ca s.cs.length cc,.int .u64 s.laid],.agg #[.int .u8 d.tag,.int .i64 d.most,.int .i64 d.seg,.int .i64 d.least,.int .i64 d.den,.int .i64 d.ll,.int .i64 d.rl,.int .i64 d.rh,.int .i64 d.lh,.int .i64 t.seg,.slice wa' t.ws.length wc',.slice ka' t.ks.length kc',.slice va' t.vs.length vc',.slice ca' t.cs.length cc',.int .u64 t.laid]] w (AnsB w (.bool b)):=by
 go_enter Tryz.func47,Tryz.ntmps47
 go_wp2_with fail
 refine (SM.out _ xbel).mono ?_;rintro e w1 ⟨rfl,hb1⟩;have hz_w1:=hb1.size;try simp only [World.size_alloc,World.size_setCell] at hz_w1
 have hh:=bc15 hb1 (au15 (al15 (b:=w.heap.size) xsi));obtain ⟨c_t0,c_t1,c_t2,c_t3,c_t4,c_t5,c_t6,c_t7,c_t8,c_t9,c_t10,c_t11,c_t12,c_t13,c_t14⟩:=hh;have z_t:=blt hb1 (auz (alz (b:=w.heap.size) xsi));have hh:=bc15 hb1 (al15 (b:=w.heap.size+1) xsi);obtain ⟨c_o0,c_o1,c_o2,c_o3,c_o4,c_o5,c_o6,c_o7,c_o8,c_o9,c_o10,c_o11,c_o12,c_o13,c_o14⟩:=hh;have z_o:=blt hb1 (alz (b:=w.heap.size+1) xsi);have hB1:Below w.heap.size w w1:=xbel;go_wp2
 go_ret
 exact ⟨rfl,hB1⟩
theorem Sm11_ok (c d:Cfg) (s t:SlC) (a a':SlA) (w:World) (hin:SlIn w s a) (hin':SlIn w t a') (hl1:s.ws.length≤1000000000) (hl2:s.ks.length≤1000000000) (hl3:s.vs.length≤1000000000) (hl4:s.cs.length≤1000000000):
    Calls Tryz.prog 47 #[pmV c s a,pmV d t a'] w (AnsB w (.bool (pmB c s d t))):=by
 unfold pmB cfB;by_cases h0:c.tag=d.tag
 case neg=>
  have g0:(c.tag==d.tag)=false:=by simpa using h0
  simp only [decide_eq_false h0,Bool.false_and];exact Sm11_p0 c d s t a.wa a.ka a.va a.ca a.wc a.kc a.vc a.cc a'.wa a'.ka a'.va a'.ca a'.wc a'.kc a'.vc a'.cc w g0
 have g0:(c.tag==d.tag)=true:=by simpa using h0
 rw [decide_eq_true h0,Bool.true_and];by_cases h1:c.most=d.most
 case neg=>
  have g1:(c.most==d.most)=false:=by simpa using h1
  simp only [decide_eq_false h1,Bool.false_and];exact Sm11_p1 c d s t a.wa a.ka a.va a.ca a.wc a.kc a.vc a.cc a'.wa a'.ka a'.va a'.ca a'.wc a'.kc a'.vc a'.cc w g0 g1
 have g1:(c.most==d.most)=true:=by simpa using h1
 rw [decide_eq_true h1,Bool.true_and];by_cases h2:c.seg=d.seg
 case neg=>
  have g2:(c.seg==d.seg)=false:=by simpa using h2
  simp only [decide_eq_false h2,Bool.false_and];exact Sm11_p2 c d s t a.wa a.ka a.va a.ca a.wc a.kc a.vc a.cc a'.wa a'.ka a'.va a'.ca a'.wc a'.kc a'.vc a'.cc w g0 g1 g2
 have g2:(c.seg==d.seg)=true:=by simpa using h2
 rw [decide_eq_true h2,Bool.true_and];by_cases h3:c.least=d.least
 case neg=>
  have g3:(c.least==d.least)=false:=by simpa using h3
  simp only [decide_eq_false h3,Bool.false_and];exact Sm11_p3 c d s t a.wa a.ka a.va a.ca a.wc a.kc a.vc a.cc a'.wa a'.ka a'.va a'.ca a'.wc a'.kc a'.vc a'.cc w g0 g1 g2 g3
 have g3:(c.least==d.least)=true:=by simpa using h3
 rw [decide_eq_true h3,Bool.true_and];by_cases h4:c.den=d.den
 case neg=>
  have g4:(c.den==d.den)=false:=by simpa using h4
  simp only [decide_eq_false h4,Bool.false_and];exact Sm11_p4 c d s t a.wa a.ka a.va a.ca a.wc a.kc a.vc a.cc a'.wa a'.ka a'.va a'.ca a'.wc a'.kc a'.vc a'.cc w g0 g1 g2 g3 g4
 have g4:(c.den==d.den)=true:=by simpa using h4
 rw [decide_eq_true h4,Bool.true_and];by_cases h5:c.ll=d.ll
 case neg=>
  have g5:(c.ll==d.ll)=false:=by simpa using h5
  simp only [decide_eq_false h5,Bool.false_and];exact Sm11_p5 c d s t a.wa a.ka a.va a.ca a.wc a.kc a.vc a.cc a'.wa a'.ka a'.va a'.ca a'.wc a'.kc a'.vc a'.cc w g0 g1 g2 g3 g4 g5
 have g5:(c.ll==d.ll)=true:=by simpa using h5
 rw [decide_eq_true h5,Bool.true_and];by_cases h6:c.rl=d.rl
 case neg=>
  have g6:(c.rl==d.rl)=false:=by simpa using h6
  simp only [decide_eq_false h6,Bool.false_and];exact Sm11_p6 c d s t a.wa a.ka a.va a.ca a.wc a.kc a.vc a.cc a'.wa a'.ka a'.va a'.ca a'.wc a'.kc a'.vc a'.cc w g0 g1 g2 g3 g4 g5 g6
 have g6:(c.rl==d.rl)=true:=by simpa using h6
 rw [decide_eq_true h6,Bool.true_and];by_cases h7:c.rh=d.rh
 case neg=>
  have g7:(c.rh==d.rh)=false:=by simpa using h7
  simp only [decide_eq_false h7,Bool.false_and];exact Sm11_p7 c d s t a.wa a.ka a.va a.ca a.wc a.kc a.vc a.cc a'.wa a'.ka a'.va a'.ca a'.wc a'.kc a'.vc a'.cc w g0 g1 g2 g3 g4 g5 g6 g7
 have g7:(c.rh==d.rh)=true:=by simpa using h7
 rw [decide_eq_true h7,Bool.true_and];by_cases h8:c.lh=d.lh
 case neg=>
  have g8:(c.lh==d.lh)=false:=by simpa using h8
  simp only [decide_eq_false h8,Bool.false_and];exact Sm11_p8 c d s t a.wa a.ka a.va a.ca a.wc a.kc a.vc a.cc a'.wa a'.ka a'.va a'.ca a'.wc a'.kc a'.vc a'.cc w g0 g1 g2 g3 g4 g5 g6 g7 g8
 have g8:(c.lh==d.lh)=true:=by simpa using h8
 rw [decide_eq_true h8,Bool.true_and];exact Sm11_p9 c d s t a.wa a.ka a.va a.ca a.wc a.kc a.vc a.cc a'.wa a'.ka a'.va a'.ca a'.wc a'.kc a'.vc a'.cc w g0 g1 g2 g3 g4 g5 g6 g7 g8 (sameB s t) (hid fun W hb=>Sm04_ok s t a a' W (hin.below hb) (hin'.below hb) hl1 hl2 hl3 hl4)
theorem SmPm_p0 (c d:Cfg) (s t:SlC) (wa ka va ca:Option Addr) (wc kc vc cc:Nat) (wa' ka' va' ca':Option Addr) (wc' kc' vc' cc':Nat) (w:World) (g0:(c.tag==d.tag)=false):
    Calls Tryz.prog 45 #[.agg #[.int .u8 c.tag,.int .i64 c.most,.int .i64 c.seg,.int .i64 c.least,.int .i64 c.den,.int .i64 c.ll,.int .i64 c.rl,.int .i64 c.rh,.int .i64 c.lh,.int .i64 s.seg,.slice wa s.ws.length wc,.slice ka s.ks.length kc,.slice va s.vs.length vc,.slice ca s.cs.length cc,.int .u64 s.laid],.agg #[.int .u8 d.tag,.int .i64 d.most,.int .i64 d.seg,.int .i64 d.least,.int .i64 d.den,.int .i64 d.ll,.int .i64 d.rl,.int .i64 d.rh,.int .i64 d.lh,.int .i64 t.seg,.slice wa' t.ws.length wc',.slice ka' t.ks.length kc',.slice va' t.vs.length vc',.slice ca' t.cs.length cc',.int .u64 t.laid]] w (AnsB w (.bool false)):=by
 go_enter Tryz.func45,Tryz.ntmps45
 have hB0:Below w.heap.size w ((w.alloc (.cells #[.int .u8 c.tag,.int .i64 c.most,.int .i64 c.seg,.int .i64 c.least,.int .i64 c.den,.int .i64 c.ll,.int .i64 c.rl,.int .i64 c.rh,.int .i64 c.lh,.int .i64 s.seg,.slice wa s.ws.length wc,.slice ka s.ks.length kc,.slice va s.vs.length vc,.slice ca s.cs.length cc,.int .u64 s.laid] 31)).alloc (.cells #[.int .u8 d.tag,.int .i64 d.most,.int .i64 d.seg,.int .i64 d.least,.int .i64 d.den,.int .i64 d.ll,.int .i64 d.rl,.int .i64 d.rh,.int .i64 d.lh,.int .i64 t.seg,.slice wa' t.ws.length wc',.slice ka' t.ks.length kc',.slice va' t.vs.length vc',.slice ca' t.cs.length cc',.int .u64 t.laid] 31)):=xbel;go_wp2
 go_ret
 exact ⟨rfl,hB0⟩
theorem SmPm_p1 (c d:Cfg) (s t:SlC) (wa ka va ca:Option Addr) (wc kc vc cc:Nat) (wa' ka' va' ca':Option Addr) (wc' kc' vc' cc':Nat) (w:World) (g0:(c.tag==d.tag)=true) (g1:(c.most==d.most)=false):
    Calls Tryz.prog 45 #[.agg #[.int .u8 c.tag,.int .i64 c.most,.int .i64 c.seg,.int .i64 c.least,.int .i64 c.den,.int .i64 c.ll,.int .i64 c.rl,.int .i64 c.rh,.int .i64 c.lh,.int .i64 s.seg,.slice wa s.ws.length wc,.slice ka s.ks.length kc,.slice va s.vs.length vc,.slice ca s.cs.length cc,.int .u64 s.laid],.agg #[.int .u8 d.tag,.int .i64 d.most,.int .i64 d.seg,.int .i64 d.least,.int .i64 d.den,.int .i64 d.ll,.int .i64 d.rl,.int .i64 d.rh,.int .i64 d.lh,.int .i64 t.seg,.slice wa' t.ws.length wc',.slice ka' t.ks.length kc',.slice va' t.vs.length vc',.slice ca' t.cs.length cc',.int .u64 t.laid]] w (AnsB w (.bool false)):=by
 go_enter Tryz.func45,Tryz.ntmps45
 have hB0:Below w.heap.size w ((w.alloc (.cells #[.int .u8 c.tag,.int .i64 c.most,.int .i64 c.seg,.int .i64 c.least,.int .i64 c.den,.int .i64 c.ll,.int .i64 c.rl,.int .i64 c.rh,.int .i64 c.lh,.int .i64 s.seg,.slice wa s.ws.length wc,.slice ka s.ks.length kc,.slice va s.vs.length vc,.slice ca s.cs.length cc,.int .u64 s.laid] 31)).alloc (.cells #[.int .u8 d.tag,.int .i64 d.most,.int .i64 d.seg,.int .i64 d.least,.int .i64 d.den,.int .i64 d.ll,.int .i64 d.rl,.int .i64 d.rh,.int .i64 d.lh,.int .i64 t.seg,.slice wa' t.ws.length wc',.slice ka' t.ks.length kc',.slice va' t.vs.length vc',.slice ca' t.cs.length cc',.int .u64 t.laid] 31)):=xbel;go_wp2
 go_ret
 exact ⟨rfl,hB0⟩
theorem SmPm_p2 (c d:Cfg) (s t:SlC) (wa ka va ca:Option Addr) (wc kc vc cc:Nat) (wa' ka' va' ca':Option Addr) (wc' kc' vc' cc':Nat) (w:World) (g0:(c.tag==d.tag)=true) (g1:(c.most==d.most)=true) (g2:(c.seg==d.seg)=false):
    Calls Tryz.prog 45 #[.agg #[.int .u8 c.tag,.int .i64 c.most,.int .i64 c.seg,.int .i64 c.least,.int .i64 c.den,.int .i64 c.ll,.int .i64 c.rl,.int .i64 c.rh,.int .i64 c.lh,.int .i64 s.seg,.slice wa s.ws.length wc,.slice ka s.ks.length kc,.slice va s.vs.length vc,.slice ca s.cs.length cc,.int .u64 s.laid],.agg #[.int .u8 d.tag,.int .i64 d.most,.int .i64 d.seg,.int .i64 d.least,.int .i64 d.den,.int .i64 d.ll,.int .i64 d.rl,.int .i64 d.rh,.int .i64 d.lh,.int .i64 t.seg,.slice wa' t.ws.length wc',.slice ka' t.ks.length kc',.slice va' t.vs.length vc',.slice ca' t.cs.length cc',.int .u64 t.laid]] w (AnsB w (.bool false)):=by
 go_enter Tryz.func45,Tryz.ntmps45
 have hB0:Below w.heap.size w ((w.alloc (.cells #[.int .u8 c.tag,.int .i64 c.most,.int .i64 c.seg,.int .i64 c.least,.int .i64 c.den,.int .i64 c.ll,.int .i64 c.rl,.int .i64 c.rh,.int .i64 c.lh,.int .i64 s.seg,.slice wa s.ws.length wc,.slice ka s.ks.length kc,.slice va s.vs.length vc,.slice ca s.cs.length cc,.int .u64 s.laid] 31)).alloc (.cells #[.int .u8 d.tag,.int .i64 d.most,.int .i64 d.seg,.int .i64 d.least,.int .i64 d.den,.int .i64 d.ll,.int .i64 d.rl,.int .i64 d.rh,.int .i64 d.lh,.int .i64 t.seg,.slice wa' t.ws.length wc',.slice ka' t.ks.length kc',.slice va' t.vs.length vc',.slice ca' t.cs.length cc',.int .u64 t.laid] 31)):=xbel;go_wp2
 go_ret
 exact ⟨rfl,hB0⟩
theorem SmPm_p3 (c d:Cfg) (s t:SlC) (wa ka va ca:Option Addr) (wc kc vc cc:Nat) (wa' ka' va' ca':Option Addr) (wc' kc' vc' cc':Nat) (w:World) (g0:(c.tag==d.tag)=true) (g1:(c.most==d.most)=true) (g2:(c.seg==d.seg)=true) (g3:(c.least==d.least)=false):
    Calls Tryz.prog 45 #[.agg #[.int .u8 c.tag,.int .i64 c.most,.int .i64 c.seg,.int .i64 c.least,.int .i64 c.den,.int .i64 c.ll,.int .i64 c.rl,.int .i64 c.rh,.int .i64 c.lh,.int .i64 s.seg,.slice wa s.ws.length wc,.slice ka s.ks.length kc,.slice va s.vs.length vc,.slice ca s.cs.length cc,.int .u64 s.laid],.agg #[.int .u8 d.tag,.int .i64 d.most,.int .i64 d.seg,.int .i64 d.least,.int .i64 d.den,.int .i64 d.ll,.int .i64 d.rl,.int .i64 d.rh,.int .i64 d.lh,.int .i64 t.seg,.slice wa' t.ws.length wc',.slice ka' t.ks.length kc',.slice va' t.vs.length vc',.slice ca' t.cs.length cc',.int .u64 t.laid]] w (AnsB w (.bool false)):=by
 go_enter Tryz.func45,Tryz.ntmps45
 have hB0:Below w.heap.size w ((w.alloc (.cells #[.int .u8 c.tag,.int .i64 c.most,.int .i64 c.seg,.int .i64 c.least,.int .i64 c.den,.int .i64 c.ll,.int .i64 c.rl,.int .i64 c.rh,.int .i64 c.lh,.int .i64 s.seg,.slice wa s.ws.length wc,.slice ka s.ks.length kc,.slice va s.vs.length vc,.slice ca s.cs.length cc,.int .u64 s.laid] 31)).alloc (.cells #[.int .u8 d.tag,.int .i64 d.most,.int .i64 d.seg,.int .i64 d.least,.int .i64 d.den,.int .i64 d.ll,.int .i64 d.rl,.int .i64 d.rh,.int .i64 d.lh,.int .i64 t.seg,.slice wa' t.ws.length wc',.slice ka' t.ks.length kc',.slice va' t.vs.length vc',.slice ca' t.cs.length cc',.int .u64 t.laid] 31)):=xbel;go_wp2
 go_ret
 exact ⟨rfl,hB0⟩
theorem SmPm_p4 (c d:Cfg) (s t:SlC) (wa ka va ca:Option Addr) (wc kc vc cc:Nat) (wa' ka' va' ca':Option Addr) (wc' kc' vc' cc':Nat) (w:World) (g0:(c.tag==d.tag)=true) (g1:(c.most==d.most)=true) (g2:(c.seg==d.seg)=true) (g3:(c.least==d.least)=true) (g4:(c.den==d.den)=false):
    Calls Tryz.prog 45 #[.agg #[.int .u8 c.tag,.int .i64 c.most,.int .i64 c.seg,.int .i64 c.least,.int .i64 c.den,.int .i64 c.ll,.int .i64 c.rl,.int .i64 c.rh,.int .i64 c.lh,.int .i64 s.seg,.slice wa s.ws.length wc,.slice ka s.ks.length kc,.slice va s.vs.length vc,.slice ca s.cs.length cc,.int .u64 s.laid],.agg #[.int .u8 d.tag,.int .i64 d.most,.int .i64 d.seg,.int .i64 d.least,.int .i64 d.den,.int .i64 d.ll,.int .i64 d.rl,.int .i64 d.rh,.int .i64 d.lh,.int .i64 t.seg,.slice wa' t.ws.length wc',.slice ka' t.ks.length kc',.slice va' t.vs.length vc',.slice ca' t.cs.length cc',.int .u64 t.laid]] w (AnsB w (.bool false)):=by
 go_enter Tryz.func45,Tryz.ntmps45
 have hB0:Below w.heap.size w ((w.alloc (.cells #[.int .u8 c.tag,.int .i64 c.most,.int .i64 c.seg,.int .i64 c.least,.int .i64 c.den,.int .i64 c.ll,.int .i64 c.rl,.int .i64 c.rh,.int .i64 c.lh,.int .i64 s.seg,.slice wa s.ws.length wc,.slice ka s.ks.length kc,.slice va s.vs.length vc,.slice ca s.cs.length cc,.int .u64 s.laid] 31)).alloc (.cells #[.int .u8 d.tag,.int .i64 d.most,.int .i64 d.seg,.int .i64 d.least,.int .i64 d.den,.int .i64 d.ll,.int .i64 d.rl,.int .i64 d.rh,.int .i64 d.lh,.int .i64 t.seg,.slice wa' t.ws.length wc',.slice ka' t.ks.length kc',.slice va' t.vs.length vc',.slice ca' t.cs.length cc',.int .u64 t.laid] 31)):=xbel;go_wp2
 go_ret
 exact ⟨rfl,hB0⟩
theorem SmPm_p5 (c d:Cfg) (s t:SlC) (wa ka va ca:Option Addr) (wc kc vc cc:Nat) (wa' ka' va' ca':Option Addr) (wc' kc' vc' cc':Nat) (w:World) (g0:(c.tag==d.tag)=true) (g1:(c.most==d.most)=true) (g2:(c.seg==d.seg)=true) (g3:(c.least==d.least)=true) (g4:(c.den==d.den)=true) (g5:(c.ll==d.ll)=false):
    Calls Tryz.prog 45 #[.agg #[.int .u8 c.tag,.int .i64 c.most,.int .i64 c.seg,.int .i64 c.least,.int .i64 c.den,.int .i64 c.ll,.int .i64 c.rl,.int .i64 c.rh,.int .i64 c.lh,.int .i64 s.seg,.slice wa s.ws.length wc,.slice ka s.ks.length kc,.slice va s.vs.length vc,.slice ca s.cs.length cc,.int .u64 s.laid],.agg #[.int .u8 d.tag,.int .i64 d.most,.int .i64 d.seg,.int .i64 d.least,.int .i64 d.den,.int .i64 d.ll,.int .i64 d.rl,.int .i64 d.rh,.int .i64 d.lh,.int .i64 t.seg,.slice wa' t.ws.length wc',.slice ka' t.ks.length kc',.slice va' t.vs.length vc',.slice ca' t.cs.length cc',.int .u64 t.laid]] w (AnsB w (.bool false)):=by
 go_enter Tryz.func45,Tryz.ntmps45
 have hB0:Below w.heap.size w ((w.alloc (.cells #[.int .u8 c.tag,.int .i64 c.most,.int .i64 c.seg,.int .i64 c.least,.int .i64 c.den,.int .i64 c.ll,.int .i64 c.rl,.int .i64 c.rh,.int .i64 c.lh,.int .i64 s.seg,.slice wa s.ws.length wc,.slice ka s.ks.length kc,.slice va s.vs.length vc,.slice ca s.cs.length cc,.int .u64 s.laid] 31)).alloc (.cells #[.int .u8 d.tag,.int .i64 d.most,.int .i64 d.seg,.int .i64 d.least,.int .i64 d.den,.int .i64 d.ll,.int .i64 d.rl,.int .i64 d.rh,.int .i64 d.lh,.int .i64 t.seg,.slice wa' t.ws.length wc',.slice ka' t.ks.length kc',.slice va' t.vs.length vc',.slice ca' t.cs.length cc',.int .u64 t.laid] 31)):=xbel;go_wp2
 go_ret
 exact ⟨rfl,hB0⟩
theorem SmPm_p6 (c d:Cfg) (s t:SlC) (wa ka va ca:Option Addr) (wc kc vc cc:Nat) (wa' ka' va' ca':Option Addr) (wc' kc' vc' cc':Nat) (w:World) (g0:(c.tag==d.tag)=true) (g1:(c.most==d.most)=true) (g2:(c.seg==d.seg)=true) (g3:(c.least==d.least)=true) (g4:(c.den==d.den)=true) (g5:(c.ll==d.ll)=true) (g6:(c.rl==d.rl)=false):
    Calls Tryz.prog 45 #[.agg #[.int .u8 c.tag,.int .i64 c.most,.int .i64 c.seg,.int .i64 c.least,.int .i64 c.den,.int .i64 c.ll,.int .i64 c.rl,.int .i64 c.rh,.int .i64 c.lh,.int .i64 s.seg,.slice wa s.ws.length wc,.slice ka s.ks.length kc,.slice va s.vs.length vc,.slice ca s.cs.length cc,.int .u64 s.laid],.agg #[.int .u8 d.tag,.int .i64 d.most,.int .i64 d.seg,.int .i64 d.least,.int .i64 d.den,.int .i64 d.ll,.int .i64 d.rl,.int .i64 d.rh,.int .i64 d.lh,.int .i64 t.seg,.slice wa' t.ws.length wc',.slice ka' t.ks.length kc',.slice va' t.vs.length vc',.slice ca' t.cs.length cc',.int .u64 t.laid]] w (AnsB w (.bool false)):=by
 go_enter Tryz.func45,Tryz.ntmps45
 have hB0:Below w.heap.size w ((w.alloc (.cells #[.int .u8 c.tag,.int .i64 c.most,.int .i64 c.seg,.int .i64 c.least,.int .i64 c.den,.int .i64 c.ll,.int .i64 c.rl,.int .i64 c.rh,.int .i64 c.lh,.int .i64 s.seg,.slice wa s.ws.length wc,.slice ka s.ks.length kc,.slice va s.vs.length vc,.slice ca s.cs.length cc,.int .u64 s.laid] 31)).alloc (.cells #[.int .u8 d.tag,.int .i64 d.most,.int .i64 d.seg,.int .i64 d.least,.int .i64 d.den,.int .i64 d.ll,.int .i64 d.rl,.int .i64 d.rh,.int .i64 d.lh,.int .i64 t.seg,.slice wa' t.ws.length wc',.slice ka' t.ks.length kc',.slice va' t.vs.length vc',.slice ca' t.cs.length cc',.int .u64 t.laid] 31)):=xbel;go_wp2
 go_ret
 exact ⟨rfl,hB0⟩
theorem SmPm_p7 (c d:Cfg) (s t:SlC) (wa ka va ca:Option Addr) (wc kc vc cc:Nat) (wa' ka' va' ca':Option Addr) (wc' kc' vc' cc':Nat) (w:World) (g0:(c.tag==d.tag)=true) (g1:(c.most==d.most)=true) (g2:(c.seg==d.seg)=true) (g3:(c.least==d.least)=true) (g4:(c.den==d.den)=true) (g5:(c.ll==d.ll)=true) (g6:(c.rl==d.rl)=true) (g7:(c.rh==d.rh)=false):
    Calls Tryz.prog 45 #[.agg #[.int .u8 c.tag,.int .i64 c.most,.int .i64 c.seg,.int .i64 c.least,.int .i64 c.den,.int .i64 c.ll,.int .i64 c.rl,.int .i64 c.rh,.int .i64 c.lh,.int .i64 s.seg,.slice wa s.ws.length wc,.slice ka s.ks.length kc,.slice va s.vs.length vc,.slice ca s.cs.length cc,.int .u64 s.laid],.agg #[.int .u8 d.tag,.int .i64 d.most,.int .i64 d.seg,.int .i64 d.least,.int .i64 d.den,.int .i64 d.ll,.int .i64 d.rl,.int .i64 d.rh,.int .i64 d.lh,.int .i64 t.seg,.slice wa' t.ws.length wc',.slice ka' t.ks.length kc',.slice va' t.vs.length vc',.slice ca' t.cs.length cc',.int .u64 t.laid]] w (AnsB w (.bool false)):=by
 go_enter Tryz.func45,Tryz.ntmps45
 have hB0:Below w.heap.size w ((w.alloc (.cells #[.int .u8 c.tag,.int .i64 c.most,.int .i64 c.seg,.int .i64 c.least,.int .i64 c.den,.int .i64 c.ll,.int .i64 c.rl,.int .i64 c.rh,.int .i64 c.lh,.int .i64 s.seg,.slice wa s.ws.length wc,.slice ka s.ks.length kc,.slice va s.vs.length vc,.slice ca s.cs.length cc,.int .u64 s.laid] 31)).alloc (.cells #[.int .u8 d.tag,.int .i64 d.most,.int .i64 d.seg,.int .i64 d.least,.int .i64 d.den,.int .i64 d.ll,.int .i64 d.rl,.int .i64 d.rh,.int .i64 d.lh,.int .i64 t.seg,.slice wa' t.ws.length wc',.slice ka' t.ks.length kc',.slice va' t.vs.length vc',.slice ca' t.cs.length cc',.int .u64 t.laid] 31)):=xbel;go_wp2
 go_ret
 exact ⟨rfl,hB0⟩
theorem SmPm_p8 (c d:Cfg) (s t:SlC) (wa ka va ca:Option Addr) (wc kc vc cc:Nat) (wa' ka' va' ca':Option Addr) (wc' kc' vc' cc':Nat) (w:World) (g0:(c.tag==d.tag)=true) (g1:(c.most==d.most)=true) (g2:(c.seg==d.seg)=true) (g3:(c.least==d.least)=true) (g4:(c.den==d.den)=true) (g5:(c.ll==d.ll)=true) (g6:(c.rl==d.rl)=true) (g7:(c.rh==d.rh)=true) (g8:(c.lh==d.lh)=false):
    Calls Tryz.prog 45 #[.agg #[.int .u8 c.tag,.int .i64 c.most,.int .i64 c.seg,.int .i64 c.least,.int .i64 c.den,.int .i64 c.ll,.int .i64 c.rl,.int .i64 c.rh,.int .i64 c.lh,.int .i64 s.seg,.slice wa s.ws.length wc,.slice ka s.ks.length kc,.slice va s.vs.length vc,.slice ca s.cs.length cc,.int .u64 s.laid],.agg #[.int .u8 d.tag,.int .i64 d.most,.int .i64 d.seg,.int .i64 d.least,.int .i64 d.den,.int .i64 d.ll,.int .i64 d.rl,.int .i64 d.rh,.int .i64 d.lh,.int .i64 t.seg,.slice wa' t.ws.length wc',.slice ka' t.ks.length kc',.slice va' t.vs.length vc',.slice ca' t.cs.length cc',.int .u64 t.laid]] w (AnsB w (.bool false)):=by
 go_enter Tryz.func45,Tryz.ntmps45
 have hB0:Below w.heap.size w ((w.alloc (.cells #[.int .u8 c.tag,.int .i64 c.most,.int .i64 c.seg,.int .i64 c.least,.int .i64 c.den,.int .i64 c.ll,.int .i64 c.rl,.int .i64 c.rh,.int .i64 c.lh,.int .i64 s.seg,.slice wa s.ws.length wc,.slice ka s.ks.length kc,.slice va s.vs.length vc,.slice ca s.cs.length cc,.int .u64 s.laid] 31)).alloc (.cells #[.int .u8 d.tag,.int .i64 d.most,.int .i64 d.seg,.int .i64 d.least,.int .i64 d.den,.int .i64 d.ll,.int .i64 d.rl,.int .i64 d.rh,.int .i64 d.lh,.int .i64 t.seg,.slice wa' t.ws.length wc',.slice ka' t.ks.length kc',.slice va' t.vs.length vc',.slice ca' t.cs.length cc',.int .u64 t.laid] 31)):=xbel;go_wp2
 go_ret
 exact ⟨rfl,hB0⟩
theorem SmPm_p9 (c d:Cfg) (s t:SlC) (wa ka va ca:Option Addr) (wc kc vc cc:Nat) (wa' ka' va' ca':Option Addr) (wc' kc' vc' cc':Nat) (w:World) (g0:(c.tag==d.tag)=true) (g1:(c.most==d.most)=true) (g2:(c.seg==d.seg)=true) (g3:(c.least==d.least)=true) (g4:(c.den==d.den)=true) (g5:(c.ll==d.ll)=true) (g6:(c.rl==d.rl)=true) (g7:(c.rh==d.rh)=true) (g8:(c.lh==d.lh)=true) (b:Bool) (SM:Hid (∀W,Below w.heap.size w W→Calls Tryz.prog 74 #[.agg #[.int .i64 s.seg,.slice wa s.ws.length wc,.slice ka s.ks.length kc,.slice va s.vs.length vc,.slice ca s.cs.length cc,.int .u64 s.laid],.agg #[.int .i64 t.seg,.slice wa' t.ws.length wc',.slice ka' t.ks.length kc',.slice va' t.vs.length vc',.slice ca' t.cs.length cc',.int .u64 t.laid]] W (AnsB W (.bool b)))):
    Calls Tryz.prog 45 #[.agg #[.int .u8 c.tag,.int .i64 c.most,.int .i64 c.seg,.int .i64 c.least,.int .i64 c.den,.int .i64 c.ll,.int .i64 c.rl,.int .i64 c.rh,.int .i64 c.lh,.int .i64 s.seg,.slice wa s.ws.length wc,.slice ka s.ks.length kc,.slice va s.vs.length vc,.slice ca s.cs.length cc,.int .u64 s.laid],.agg #[.int .u8 d.tag,.int .i64 d.most,.int .i64 d.seg,.int .i64 d.least,.int .i64 d.den,.int .i64 d.ll,.int .i64 d.rl,.int .i64 d.rh,.int .i64 d.lh,.int .i64 t.seg,.slice wa' t.ws.length wc',.slice ka' t.ks.length kc',.slice va' t.vs.length vc',.slice ca' t.cs.length cc',.int .u64 t.laid]] w (AnsB w (.bool b)):=by
 go_enter Tryz.func45,Tryz.ntmps45
 go_wp2_with fail
 refine (SM.out _ xbel).mono ?_;rintro e w1 ⟨rfl,hb1⟩;have hz_w1:=hb1.size;try simp only [World.size_alloc,World.size_setCell] at hz_w1
 have hh:=bc15 hb1 (au15 (al15 (b:=w.heap.size) xsi));obtain ⟨c_t0,c_t1,c_t2,c_t3,c_t4,c_t5,c_t6,c_t7,c_t8,c_t9,c_t10,c_t11,c_t12,c_t13,c_t14⟩:=hh;have z_t:=blt hb1 (auz (alz (b:=w.heap.size) xsi));have hh:=bc15 hb1 (al15 (b:=w.heap.size+1) xsi);obtain ⟨c_o0,c_o1,c_o2,c_o3,c_o4,c_o5,c_o6,c_o7,c_o8,c_o9,c_o10,c_o11,c_o12,c_o13,c_o14⟩:=hh;have z_o:=blt hb1 (alz (b:=w.heap.size+1) xsi);have hB1:Below w.heap.size w w1:=xbel;go_wp2
 go_ret
 exact ⟨rfl,hB1⟩
theorem SmPm_ok (c d:Cfg) (s t:SlC) (a a':SlA) (w:World) (hin:SlIn w s a) (hin':SlIn w t a') (hl1:s.ws.length≤1000000000) (hl2:s.ks.length≤1000000000) (hl3:s.vs.length≤1000000000) (hl4:s.cs.length≤1000000000):
    Calls Tryz.prog 45 #[pmV c s a,pmV d t a'] w (AnsB w (.bool (pmB c s d t))):=by
 unfold pmB cfB;by_cases h0:c.tag=d.tag
 case neg=>
  have g0:(c.tag==d.tag)=false:=by simpa using h0
  simp only [decide_eq_false h0,Bool.false_and];exact SmPm_p0 c d s t a.wa a.ka a.va a.ca a.wc a.kc a.vc a.cc a'.wa a'.ka a'.va a'.ca a'.wc a'.kc a'.vc a'.cc w g0
 have g0:(c.tag==d.tag)=true:=by simpa using h0
 rw [decide_eq_true h0,Bool.true_and];by_cases h1:c.most=d.most
 case neg=>
  have g1:(c.most==d.most)=false:=by simpa using h1
  simp only [decide_eq_false h1,Bool.false_and];exact SmPm_p1 c d s t a.wa a.ka a.va a.ca a.wc a.kc a.vc a.cc a'.wa a'.ka a'.va a'.ca a'.wc a'.kc a'.vc a'.cc w g0 g1
 have g1:(c.most==d.most)=true:=by simpa using h1
 rw [decide_eq_true h1,Bool.true_and];by_cases h2:c.seg=d.seg
 case neg=>
  have g2:(c.seg==d.seg)=false:=by simpa using h2
  simp only [decide_eq_false h2,Bool.false_and];exact SmPm_p2 c d s t a.wa a.ka a.va a.ca a.wc a.kc a.vc a.cc a'.wa a'.ka a'.va a'.ca a'.wc a'.kc a'.vc a'.cc w g0 g1 g2
 have g2:(c.seg==d.seg)=true:=by simpa using h2
 rw [decide_eq_true h2,Bool.true_and];by_cases h3:c.least=d.least
 case neg=>
  have g3:(c.least==d.least)=false:=by simpa using h3
  simp only [decide_eq_false h3,Bool.false_and];exact SmPm_p3 c d s t a.wa a.ka a.va a.ca a.wc a.kc a.vc a.cc a'.wa a'.ka a'.va a'.ca a'.wc a'.kc a'.vc a'.cc w g0 g1 g2 g3
 have g3:(c.least==d.least)=true:=by simpa using h3
 rw [decide_eq_true h3,Bool.true_and];by_cases h4:c.den=d.den
 case neg=>
  have g4:(c.den==d.den)=false:=by simpa using h4
  simp only [decide_eq_false h4,Bool.false_and];exact SmPm_p4 c d s t a.wa a.ka a.va a.ca a.wc a.kc a.vc a.cc a'.wa a'.ka a'.va a'.ca a'.wc a'.kc a'.vc a'.cc w g0 g1 g2 g3 g4
 have g4:(c.den==d.den)=true:=by simpa using h4
 rw [decide_eq_true h4,Bool.true_and];by_cases h5:c.ll=d.ll
 case neg=>
  have g5:(c.ll==d.ll)=false:=by simpa using h5
  simp only [decide_eq_false h5,Bool.false_and];exact SmPm_p5 c d s t a.wa a.ka a.va a.ca a.wc a.kc a.vc a.cc a'.wa a'.ka a'.va a'.ca a'.wc a'.kc a'.vc a'.cc w g0 g1 g2 g3 g4 g5
 have g5:(c.ll==d.ll)=true:=by simpa using h5
 rw [decide_eq_true h5,Bool.true_and];by_cases h6:c.rl=d.rl
 case neg=>
  have g6:(c.rl==d.rl)=false:=by simpa using h6
  simp only [decide_eq_false h6,Bool.false_and];exact SmPm_p6 c d s t a.wa a.ka a.va a.ca a.wc a.kc a.vc a.cc a'.wa a'.ka a'.va a'.ca a'.wc a'.kc a'.vc a'.cc w g0 g1 g2 g3 g4 g5 g6
 have g6:(c.rl==d.rl)=true:=by simpa using h6
 rw [decide_eq_true h6,Bool.true_and];by_cases h7:c.rh=d.rh
 case neg=>
  have g7:(c.rh==d.rh)=false:=by simpa using h7
  simp only [decide_eq_false h7,Bool.false_and];exact SmPm_p7 c d s t a.wa a.ka a.va a.ca a.wc a.kc a.vc a.cc a'.wa a'.ka a'.va a'.ca a'.wc a'.kc a'.vc a'.cc w g0 g1 g2 g3 g4 g5 g6 g7
 have g7:(c.rh==d.rh)=true:=by simpa using h7
 rw [decide_eq_true h7,Bool.true_and];by_cases h8:c.lh=d.lh
 case neg=>
  have g8:(c.lh==d.lh)=false:=by simpa using h8
  simp only [decide_eq_false h8,Bool.false_and];exact SmPm_p8 c d s t a.wa a.ka a.va a.ca a.wc a.kc a.vc a.cc a'.wa a'.ka a'.va a'.ca a'.wc a'.kc a'.vc a'.cc w g0 g1 g2 g3 g4 g5 g6 g7 g8
 have g8:(c.lh==d.lh)=true:=by simpa using h8
 rw [decide_eq_true h8,Bool.true_and];exact SmPm_p9 c d s t a.wa a.ka a.va a.ca a.wc a.kc a.vc a.cc a'.wa a'.ka a'.va a'.ca a'.wc a'.kc a'.vc a'.cc w g0 g1 g2 g3 g4 g5 g6 g7 g8 (sameB s t) (hid fun W hb=>SmSl_ok s t a a' W (hin.below hb) (hin'.below hb) hl1 hl2 hl3 hl4)
structure RawC (w:World) (r:CobR) (A:CobA):Prop where
 sl:SlIn w r.s A.sa
 cc:r.s.cs.length≤A.sa.cc
 m:IsRow .i64 w A.ma r.ms
 n:IsRow .i64 w A.ca r.cs
 cz:CapsZ A.sa
 mn:A.ma=none→A.mc=0
 nn:A.ca=none→A.cc=0
 lw:0≤r.s.laid∧r.s.laid<18446744073709551616
def CobR.gr (r:CobR):Bool:=gr4 600 r.s.ks.length r.s.vs.length r.s.ws.length r.s.cs.length||(decide (600<r.ms.length)||decide (600<r.cs.length))
theorem gr_small {r:CobR} (h:r.gr=false):r.s.ks.length≤600∧r.s.vs.length≤600∧r.s.ws.length≤600∧r.s.cs.length≤600∧r.ms.length≤600∧r.cs.length≤600:=by
 simp only [CobR.gr,gr4,Bool.or_eq_false_iff,decide_eq_false_iff_not] at h;omega
theorem RawC.inC {w:World} {r:CobR} {A:CobA} (h:RawC w r A) (hg:r.gr=false):InC w r A:=by
 have q:=gr_small hg;exact ⟨h.sl,h.cc,h.m,h.n,⟨by omega,by omega,by omega,by omega,by omega,by omega,h.sl.u⟩⟩
end
end Go.Proofs.YtbedhbpgnfffmaaGreat
