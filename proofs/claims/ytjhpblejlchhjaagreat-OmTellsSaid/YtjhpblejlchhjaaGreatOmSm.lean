/- Two lists, compared. -/
import Derived.Test.YtjhpblejlchhjaaGreatOmBs
namespace Go.Proofs.YtjhpblejlchhjaaGreat
set_option maxRecDepth 100000
set_option maxHeartbeats 4000000
open Go.RowKit Go.Shelf Go.Sort
set_option linter.unusedVariables false
set_option linter.unusedSimpArgs false

def omB (c : Cfg) (s : SlC) (gs ps : List Int) (mv : Int) (d : Cfg) (t : SlC) (gs' ps' : List Int) (mv' : Int) : Bool := cfB c d && (decide (mv = mv') && (sameB s t && (decide (gs = gs') && decide (ps = ps'))))
theorem omB_refl (c : Cfg) (s : SlC) (gs ps : List Int) (mv : Int) : omB c s gs ps mv c s gs ps mv = true := by simp [omB, cfB_refl, sameB_refl]
theorem Sm15_p0 (c d : Cfg) (s t : SlC) (wa ka va ca : Option Addr) (wc kc vc cc : Nat) (wa' ka' va' ca' : Option Addr) (wc' kc' vc' cc' : Nat) (gs ps : List Int) (mv : Int) (ga pa : Option Addr) (gc pc : Nat) (gs' ps' : List Int) (mv' : Int) (ga' pa' : Option Addr) (gc' pc' : Nat) (w : World) (g0 : (c.tag == d.tag) = false) :
    Calls Tryz.prog 18 #[.agg #[.int .u8 c.tag, .int .i64 c.most, .int .i64 c.seg, .int .i64 c.least, .int .i64 c.den, .int .i64 c.ll, .int .i64 c.rl, .int .i64 c.rh, .int .i64 c.lh, .int .i64 s.seg, .slice wa s.ws.length wc, .slice ka s.ks.length kc, .slice va s.vs.length vc, .slice ca s.cs.length cc, .int .u64 s.laid, .slice ga gs.length gc, .slice pa ps.length pc, .int .u64 mv], .agg #[.int .u8 d.tag, .int .i64 d.most, .int .i64 d.seg, .int .i64 d.least, .int .i64 d.den, .int .i64 d.ll, .int .i64 d.rl, .int .i64 d.rh, .int .i64 d.lh, .int .i64 t.seg, .slice wa' t.ws.length wc', .slice ka' t.ks.length kc', .slice va' t.vs.length vc', .slice ca' t.cs.length cc', .int .u64 t.laid, .slice ga' gs'.length gc', .slice pa' ps'.length pc', .int .u64 mv']] w (AnsB w (.bool false)) := by
  go_enter Tryz.func18, Tryz.ntmps18
  have hB0 : Below w.heap.size w ((w.alloc (.cells #[.int .u8 c.tag, .int .i64 c.most, .int .i64 c.seg, .int .i64 c.least, .int .i64 c.den, .int .i64 c.ll, .int .i64 c.rl, .int .i64 c.rh, .int .i64 c.lh, .int .i64 s.seg, .slice wa s.ws.length wc, .slice ka s.ks.length kc, .slice va s.vs.length vc, .slice ca s.cs.length cc, .int .u64 s.laid, .slice ga gs.length gc, .slice pa ps.length pc, .int .u64 mv] 33)).alloc (.cells #[.int .u8 d.tag, .int .i64 d.most, .int .i64 d.seg, .int .i64 d.least, .int .i64 d.den, .int .i64 d.ll, .int .i64 d.rl, .int .i64 d.rh, .int .i64 d.lh, .int .i64 t.seg, .slice wa' t.ws.length wc', .slice ka' t.ks.length kc', .slice va' t.vs.length vc', .slice ca' t.cs.length cc', .int .u64 t.laid, .slice ga' gs'.length gc', .slice pa' ps'.length pc', .int .u64 mv'] 33)) := by (exact xbel)
  go_wp2
  go_ret
  exact ⟨rfl, hB0⟩
theorem Sm15_p1 (c d : Cfg) (s t : SlC) (wa ka va ca : Option Addr) (wc kc vc cc : Nat) (wa' ka' va' ca' : Option Addr) (wc' kc' vc' cc' : Nat) (gs ps : List Int) (mv : Int) (ga pa : Option Addr) (gc pc : Nat) (gs' ps' : List Int) (mv' : Int) (ga' pa' : Option Addr) (gc' pc' : Nat) (w : World) (g0 : (c.tag == d.tag) = true) (g1 : (c.most == d.most) = false) :
    Calls Tryz.prog 18 #[.agg #[.int .u8 c.tag, .int .i64 c.most, .int .i64 c.seg, .int .i64 c.least, .int .i64 c.den, .int .i64 c.ll, .int .i64 c.rl, .int .i64 c.rh, .int .i64 c.lh, .int .i64 s.seg, .slice wa s.ws.length wc, .slice ka s.ks.length kc, .slice va s.vs.length vc, .slice ca s.cs.length cc, .int .u64 s.laid, .slice ga gs.length gc, .slice pa ps.length pc, .int .u64 mv], .agg #[.int .u8 d.tag, .int .i64 d.most, .int .i64 d.seg, .int .i64 d.least, .int .i64 d.den, .int .i64 d.ll, .int .i64 d.rl, .int .i64 d.rh, .int .i64 d.lh, .int .i64 t.seg, .slice wa' t.ws.length wc', .slice ka' t.ks.length kc', .slice va' t.vs.length vc', .slice ca' t.cs.length cc', .int .u64 t.laid, .slice ga' gs'.length gc', .slice pa' ps'.length pc', .int .u64 mv']] w (AnsB w (.bool false)) := by
  go_enter Tryz.func18, Tryz.ntmps18
  have hB0 : Below w.heap.size w ((w.alloc (.cells #[.int .u8 c.tag, .int .i64 c.most, .int .i64 c.seg, .int .i64 c.least, .int .i64 c.den, .int .i64 c.ll, .int .i64 c.rl, .int .i64 c.rh, .int .i64 c.lh, .int .i64 s.seg, .slice wa s.ws.length wc, .slice ka s.ks.length kc, .slice va s.vs.length vc, .slice ca s.cs.length cc, .int .u64 s.laid, .slice ga gs.length gc, .slice pa ps.length pc, .int .u64 mv] 33)).alloc (.cells #[.int .u8 d.tag, .int .i64 d.most, .int .i64 d.seg, .int .i64 d.least, .int .i64 d.den, .int .i64 d.ll, .int .i64 d.rl, .int .i64 d.rh, .int .i64 d.lh, .int .i64 t.seg, .slice wa' t.ws.length wc', .slice ka' t.ks.length kc', .slice va' t.vs.length vc', .slice ca' t.cs.length cc', .int .u64 t.laid, .slice ga' gs'.length gc', .slice pa' ps'.length pc', .int .u64 mv'] 33)) := by (exact xbel)
  go_wp2
  go_ret
  exact ⟨rfl, hB0⟩
theorem Sm15_p2 (c d : Cfg) (s t : SlC) (wa ka va ca : Option Addr) (wc kc vc cc : Nat) (wa' ka' va' ca' : Option Addr) (wc' kc' vc' cc' : Nat) (gs ps : List Int) (mv : Int) (ga pa : Option Addr) (gc pc : Nat) (gs' ps' : List Int) (mv' : Int) (ga' pa' : Option Addr) (gc' pc' : Nat) (w : World) (g0 : (c.tag == d.tag) = true) (g1 : (c.most == d.most) = true) (g2 : (c.seg == d.seg) = false) :
    Calls Tryz.prog 18 #[.agg #[.int .u8 c.tag, .int .i64 c.most, .int .i64 c.seg, .int .i64 c.least, .int .i64 c.den, .int .i64 c.ll, .int .i64 c.rl, .int .i64 c.rh, .int .i64 c.lh, .int .i64 s.seg, .slice wa s.ws.length wc, .slice ka s.ks.length kc, .slice va s.vs.length vc, .slice ca s.cs.length cc, .int .u64 s.laid, .slice ga gs.length gc, .slice pa ps.length pc, .int .u64 mv], .agg #[.int .u8 d.tag, .int .i64 d.most, .int .i64 d.seg, .int .i64 d.least, .int .i64 d.den, .int .i64 d.ll, .int .i64 d.rl, .int .i64 d.rh, .int .i64 d.lh, .int .i64 t.seg, .slice wa' t.ws.length wc', .slice ka' t.ks.length kc', .slice va' t.vs.length vc', .slice ca' t.cs.length cc', .int .u64 t.laid, .slice ga' gs'.length gc', .slice pa' ps'.length pc', .int .u64 mv']] w (AnsB w (.bool false)) := by
  go_enter Tryz.func18, Tryz.ntmps18
  have hB0 : Below w.heap.size w ((w.alloc (.cells #[.int .u8 c.tag, .int .i64 c.most, .int .i64 c.seg, .int .i64 c.least, .int .i64 c.den, .int .i64 c.ll, .int .i64 c.rl, .int .i64 c.rh, .int .i64 c.lh, .int .i64 s.seg, .slice wa s.ws.length wc, .slice ka s.ks.length kc, .slice va s.vs.length vc, .slice ca s.cs.length cc, .int .u64 s.laid, .slice ga gs.length gc, .slice pa ps.length pc, .int .u64 mv] 33)).alloc (.cells #[.int .u8 d.tag, .int .i64 d.most, .int .i64 d.seg, .int .i64 d.least, .int .i64 d.den, .int .i64 d.ll, .int .i64 d.rl, .int .i64 d.rh, .int .i64 d.lh, .int .i64 t.seg, .slice wa' t.ws.length wc', .slice ka' t.ks.length kc', .slice va' t.vs.length vc', .slice ca' t.cs.length cc', .int .u64 t.laid, .slice ga' gs'.length gc', .slice pa' ps'.length pc', .int .u64 mv'] 33)) := by (exact xbel)
  go_wp2
  go_ret
  exact ⟨rfl, hB0⟩
theorem Sm15_p3 (c d : Cfg) (s t : SlC) (wa ka va ca : Option Addr) (wc kc vc cc : Nat) (wa' ka' va' ca' : Option Addr) (wc' kc' vc' cc' : Nat) (gs ps : List Int) (mv : Int) (ga pa : Option Addr) (gc pc : Nat) (gs' ps' : List Int) (mv' : Int) (ga' pa' : Option Addr) (gc' pc' : Nat) (w : World) (g0 : (c.tag == d.tag) = true) (g1 : (c.most == d.most) = true) (g2 : (c.seg == d.seg) = true) (g3 : (c.least == d.least) = false) :
    Calls Tryz.prog 18 #[.agg #[.int .u8 c.tag, .int .i64 c.most, .int .i64 c.seg, .int .i64 c.least, .int .i64 c.den, .int .i64 c.ll, .int .i64 c.rl, .int .i64 c.rh, .int .i64 c.lh, .int .i64 s.seg, .slice wa s.ws.length wc, .slice ka s.ks.length kc, .slice va s.vs.length vc, .slice ca s.cs.length cc, .int .u64 s.laid, .slice ga gs.length gc, .slice pa ps.length pc, .int .u64 mv], .agg #[.int .u8 d.tag, .int .i64 d.most, .int .i64 d.seg, .int .i64 d.least, .int .i64 d.den, .int .i64 d.ll, .int .i64 d.rl, .int .i64 d.rh, .int .i64 d.lh, .int .i64 t.seg, .slice wa' t.ws.length wc', .slice ka' t.ks.length kc', .slice va' t.vs.length vc', .slice ca' t.cs.length cc', .int .u64 t.laid, .slice ga' gs'.length gc', .slice pa' ps'.length pc', .int .u64 mv']] w (AnsB w (.bool false)) := by
  go_enter Tryz.func18, Tryz.ntmps18
  have hB0 : Below w.heap.size w ((w.alloc (.cells #[.int .u8 c.tag, .int .i64 c.most, .int .i64 c.seg, .int .i64 c.least, .int .i64 c.den, .int .i64 c.ll, .int .i64 c.rl, .int .i64 c.rh, .int .i64 c.lh, .int .i64 s.seg, .slice wa s.ws.length wc, .slice ka s.ks.length kc, .slice va s.vs.length vc, .slice ca s.cs.length cc, .int .u64 s.laid, .slice ga gs.length gc, .slice pa ps.length pc, .int .u64 mv] 33)).alloc (.cells #[.int .u8 d.tag, .int .i64 d.most, .int .i64 d.seg, .int .i64 d.least, .int .i64 d.den, .int .i64 d.ll, .int .i64 d.rl, .int .i64 d.rh, .int .i64 d.lh, .int .i64 t.seg, .slice wa' t.ws.length wc', .slice ka' t.ks.length kc', .slice va' t.vs.length vc', .slice ca' t.cs.length cc', .int .u64 t.laid, .slice ga' gs'.length gc', .slice pa' ps'.length pc', .int .u64 mv'] 33)) := by (exact xbel)
  go_wp2
  go_ret
  exact ⟨rfl, hB0⟩
theorem Sm15_p4 (c d : Cfg) (s t : SlC) (wa ka va ca : Option Addr) (wc kc vc cc : Nat) (wa' ka' va' ca' : Option Addr) (wc' kc' vc' cc' : Nat) (gs ps : List Int) (mv : Int) (ga pa : Option Addr) (gc pc : Nat) (gs' ps' : List Int) (mv' : Int) (ga' pa' : Option Addr) (gc' pc' : Nat) (w : World) (g0 : (c.tag == d.tag) = true) (g1 : (c.most == d.most) = true) (g2 : (c.seg == d.seg) = true) (g3 : (c.least == d.least) = true) (g4 : (c.den == d.den) = false) :
    Calls Tryz.prog 18 #[.agg #[.int .u8 c.tag, .int .i64 c.most, .int .i64 c.seg, .int .i64 c.least, .int .i64 c.den, .int .i64 c.ll, .int .i64 c.rl, .int .i64 c.rh, .int .i64 c.lh, .int .i64 s.seg, .slice wa s.ws.length wc, .slice ka s.ks.length kc, .slice va s.vs.length vc, .slice ca s.cs.length cc, .int .u64 s.laid, .slice ga gs.length gc, .slice pa ps.length pc, .int .u64 mv], .agg #[.int .u8 d.tag, .int .i64 d.most, .int .i64 d.seg, .int .i64 d.least, .int .i64 d.den, .int .i64 d.ll, .int .i64 d.rl, .int .i64 d.rh, .int .i64 d.lh, .int .i64 t.seg, .slice wa' t.ws.length wc', .slice ka' t.ks.length kc', .slice va' t.vs.length vc', .slice ca' t.cs.length cc', .int .u64 t.laid, .slice ga' gs'.length gc', .slice pa' ps'.length pc', .int .u64 mv']] w (AnsB w (.bool false)) := by
  go_enter Tryz.func18, Tryz.ntmps18
  have hB0 : Below w.heap.size w ((w.alloc (.cells #[.int .u8 c.tag, .int .i64 c.most, .int .i64 c.seg, .int .i64 c.least, .int .i64 c.den, .int .i64 c.ll, .int .i64 c.rl, .int .i64 c.rh, .int .i64 c.lh, .int .i64 s.seg, .slice wa s.ws.length wc, .slice ka s.ks.length kc, .slice va s.vs.length vc, .slice ca s.cs.length cc, .int .u64 s.laid, .slice ga gs.length gc, .slice pa ps.length pc, .int .u64 mv] 33)).alloc (.cells #[.int .u8 d.tag, .int .i64 d.most, .int .i64 d.seg, .int .i64 d.least, .int .i64 d.den, .int .i64 d.ll, .int .i64 d.rl, .int .i64 d.rh, .int .i64 d.lh, .int .i64 t.seg, .slice wa' t.ws.length wc', .slice ka' t.ks.length kc', .slice va' t.vs.length vc', .slice ca' t.cs.length cc', .int .u64 t.laid, .slice ga' gs'.length gc', .slice pa' ps'.length pc', .int .u64 mv'] 33)) := by (exact xbel)
  go_wp2
  go_ret
  exact ⟨rfl, hB0⟩
theorem Sm15_p5 (c d : Cfg) (s t : SlC) (wa ka va ca : Option Addr) (wc kc vc cc : Nat) (wa' ka' va' ca' : Option Addr) (wc' kc' vc' cc' : Nat) (gs ps : List Int) (mv : Int) (ga pa : Option Addr) (gc pc : Nat) (gs' ps' : List Int) (mv' : Int) (ga' pa' : Option Addr) (gc' pc' : Nat) (w : World) (g0 : (c.tag == d.tag) = true) (g1 : (c.most == d.most) = true) (g2 : (c.seg == d.seg) = true) (g3 : (c.least == d.least) = true) (g4 : (c.den == d.den) = true) (g5 : (c.ll == d.ll) = false) :
    Calls Tryz.prog 18 #[.agg #[.int .u8 c.tag, .int .i64 c.most, .int .i64 c.seg, .int .i64 c.least, .int .i64 c.den, .int .i64 c.ll, .int .i64 c.rl, .int .i64 c.rh, .int .i64 c.lh, .int .i64 s.seg, .slice wa s.ws.length wc, .slice ka s.ks.length kc, .slice va s.vs.length vc, .slice ca s.cs.length cc, .int .u64 s.laid, .slice ga gs.length gc, .slice pa ps.length pc, .int .u64 mv], .agg #[.int .u8 d.tag, .int .i64 d.most, .int .i64 d.seg, .int .i64 d.least, .int .i64 d.den, .int .i64 d.ll, .int .i64 d.rl, .int .i64 d.rh, .int .i64 d.lh, .int .i64 t.seg, .slice wa' t.ws.length wc', .slice ka' t.ks.length kc', .slice va' t.vs.length vc', .slice ca' t.cs.length cc', .int .u64 t.laid, .slice ga' gs'.length gc', .slice pa' ps'.length pc', .int .u64 mv']] w (AnsB w (.bool false)) := by
  go_enter Tryz.func18, Tryz.ntmps18
  have hB0 : Below w.heap.size w ((w.alloc (.cells #[.int .u8 c.tag, .int .i64 c.most, .int .i64 c.seg, .int .i64 c.least, .int .i64 c.den, .int .i64 c.ll, .int .i64 c.rl, .int .i64 c.rh, .int .i64 c.lh, .int .i64 s.seg, .slice wa s.ws.length wc, .slice ka s.ks.length kc, .slice va s.vs.length vc, .slice ca s.cs.length cc, .int .u64 s.laid, .slice ga gs.length gc, .slice pa ps.length pc, .int .u64 mv] 33)).alloc (.cells #[.int .u8 d.tag, .int .i64 d.most, .int .i64 d.seg, .int .i64 d.least, .int .i64 d.den, .int .i64 d.ll, .int .i64 d.rl, .int .i64 d.rh, .int .i64 d.lh, .int .i64 t.seg, .slice wa' t.ws.length wc', .slice ka' t.ks.length kc', .slice va' t.vs.length vc', .slice ca' t.cs.length cc', .int .u64 t.laid, .slice ga' gs'.length gc', .slice pa' ps'.length pc', .int .u64 mv'] 33)) := by (exact xbel)
  go_wp2
  go_ret
  exact ⟨rfl, hB0⟩
theorem Sm15_p6 (c d : Cfg) (s t : SlC) (wa ka va ca : Option Addr) (wc kc vc cc : Nat) (wa' ka' va' ca' : Option Addr) (wc' kc' vc' cc' : Nat) (gs ps : List Int) (mv : Int) (ga pa : Option Addr) (gc pc : Nat) (gs' ps' : List Int) (mv' : Int) (ga' pa' : Option Addr) (gc' pc' : Nat) (w : World) (g0 : (c.tag == d.tag) = true) (g1 : (c.most == d.most) = true) (g2 : (c.seg == d.seg) = true) (g3 : (c.least == d.least) = true) (g4 : (c.den == d.den) = true) (g5 : (c.ll == d.ll) = true) (g6 : (c.rl == d.rl) = false) :
    Calls Tryz.prog 18 #[.agg #[.int .u8 c.tag, .int .i64 c.most, .int .i64 c.seg, .int .i64 c.least, .int .i64 c.den, .int .i64 c.ll, .int .i64 c.rl, .int .i64 c.rh, .int .i64 c.lh, .int .i64 s.seg, .slice wa s.ws.length wc, .slice ka s.ks.length kc, .slice va s.vs.length vc, .slice ca s.cs.length cc, .int .u64 s.laid, .slice ga gs.length gc, .slice pa ps.length pc, .int .u64 mv], .agg #[.int .u8 d.tag, .int .i64 d.most, .int .i64 d.seg, .int .i64 d.least, .int .i64 d.den, .int .i64 d.ll, .int .i64 d.rl, .int .i64 d.rh, .int .i64 d.lh, .int .i64 t.seg, .slice wa' t.ws.length wc', .slice ka' t.ks.length kc', .slice va' t.vs.length vc', .slice ca' t.cs.length cc', .int .u64 t.laid, .slice ga' gs'.length gc', .slice pa' ps'.length pc', .int .u64 mv']] w (AnsB w (.bool false)) := by
  go_enter Tryz.func18, Tryz.ntmps18
  have hB0 : Below w.heap.size w ((w.alloc (.cells #[.int .u8 c.tag, .int .i64 c.most, .int .i64 c.seg, .int .i64 c.least, .int .i64 c.den, .int .i64 c.ll, .int .i64 c.rl, .int .i64 c.rh, .int .i64 c.lh, .int .i64 s.seg, .slice wa s.ws.length wc, .slice ka s.ks.length kc, .slice va s.vs.length vc, .slice ca s.cs.length cc, .int .u64 s.laid, .slice ga gs.length gc, .slice pa ps.length pc, .int .u64 mv] 33)).alloc (.cells #[.int .u8 d.tag, .int .i64 d.most, .int .i64 d.seg, .int .i64 d.least, .int .i64 d.den, .int .i64 d.ll, .int .i64 d.rl, .int .i64 d.rh, .int .i64 d.lh, .int .i64 t.seg, .slice wa' t.ws.length wc', .slice ka' t.ks.length kc', .slice va' t.vs.length vc', .slice ca' t.cs.length cc', .int .u64 t.laid, .slice ga' gs'.length gc', .slice pa' ps'.length pc', .int .u64 mv'] 33)) := by (exact xbel)
  go_wp2
  go_ret
  exact ⟨rfl, hB0⟩
theorem Sm15_p7 (c d : Cfg) (s t : SlC) (wa ka va ca : Option Addr) (wc kc vc cc : Nat) (wa' ka' va' ca' : Option Addr) (wc' kc' vc' cc' : Nat) (gs ps : List Int) (mv : Int) (ga pa : Option Addr) (gc pc : Nat) (gs' ps' : List Int) (mv' : Int) (ga' pa' : Option Addr) (gc' pc' : Nat) (w : World) (g0 : (c.tag == d.tag) = true) (g1 : (c.most == d.most) = true) (g2 : (c.seg == d.seg) = true) (g3 : (c.least == d.least) = true) (g4 : (c.den == d.den) = true) (g5 : (c.ll == d.ll) = true) (g6 : (c.rl == d.rl) = true) (g7 : (c.rh == d.rh) = false) :
    Calls Tryz.prog 18 #[.agg #[.int .u8 c.tag, .int .i64 c.most, .int .i64 c.seg, .int .i64 c.least, .int .i64 c.den, .int .i64 c.ll, .int .i64 c.rl, .int .i64 c.rh, .int .i64 c.lh, .int .i64 s.seg, .slice wa s.ws.length wc, .slice ka s.ks.length kc, .slice va s.vs.length vc, .slice ca s.cs.length cc, .int .u64 s.laid, .slice ga gs.length gc, .slice pa ps.length pc, .int .u64 mv], .agg #[.int .u8 d.tag, .int .i64 d.most, .int .i64 d.seg, .int .i64 d.least, .int .i64 d.den, .int .i64 d.ll, .int .i64 d.rl, .int .i64 d.rh, .int .i64 d.lh, .int .i64 t.seg, .slice wa' t.ws.length wc', .slice ka' t.ks.length kc', .slice va' t.vs.length vc', .slice ca' t.cs.length cc', .int .u64 t.laid, .slice ga' gs'.length gc', .slice pa' ps'.length pc', .int .u64 mv']] w (AnsB w (.bool false)) := by
  go_enter Tryz.func18, Tryz.ntmps18
  have hB0 : Below w.heap.size w ((w.alloc (.cells #[.int .u8 c.tag, .int .i64 c.most, .int .i64 c.seg, .int .i64 c.least, .int .i64 c.den, .int .i64 c.ll, .int .i64 c.rl, .int .i64 c.rh, .int .i64 c.lh, .int .i64 s.seg, .slice wa s.ws.length wc, .slice ka s.ks.length kc, .slice va s.vs.length vc, .slice ca s.cs.length cc, .int .u64 s.laid, .slice ga gs.length gc, .slice pa ps.length pc, .int .u64 mv] 33)).alloc (.cells #[.int .u8 d.tag, .int .i64 d.most, .int .i64 d.seg, .int .i64 d.least, .int .i64 d.den, .int .i64 d.ll, .int .i64 d.rl, .int .i64 d.rh, .int .i64 d.lh, .int .i64 t.seg, .slice wa' t.ws.length wc', .slice ka' t.ks.length kc', .slice va' t.vs.length vc', .slice ca' t.cs.length cc', .int .u64 t.laid, .slice ga' gs'.length gc', .slice pa' ps'.length pc', .int .u64 mv'] 33)) := by (exact xbel)
  go_wp2
  go_ret
  exact ⟨rfl, hB0⟩
theorem Sm15_p8 (c d : Cfg) (s t : SlC) (wa ka va ca : Option Addr) (wc kc vc cc : Nat) (wa' ka' va' ca' : Option Addr) (wc' kc' vc' cc' : Nat) (gs ps : List Int) (mv : Int) (ga pa : Option Addr) (gc pc : Nat) (gs' ps' : List Int) (mv' : Int) (ga' pa' : Option Addr) (gc' pc' : Nat) (w : World) (g0 : (c.tag == d.tag) = true) (g1 : (c.most == d.most) = true) (g2 : (c.seg == d.seg) = true) (g3 : (c.least == d.least) = true) (g4 : (c.den == d.den) = true) (g5 : (c.ll == d.ll) = true) (g6 : (c.rl == d.rl) = true) (g7 : (c.rh == d.rh) = true) (g8 : (c.lh == d.lh) = false) :
    Calls Tryz.prog 18 #[.agg #[.int .u8 c.tag, .int .i64 c.most, .int .i64 c.seg, .int .i64 c.least, .int .i64 c.den, .int .i64 c.ll, .int .i64 c.rl, .int .i64 c.rh, .int .i64 c.lh, .int .i64 s.seg, .slice wa s.ws.length wc, .slice ka s.ks.length kc, .slice va s.vs.length vc, .slice ca s.cs.length cc, .int .u64 s.laid, .slice ga gs.length gc, .slice pa ps.length pc, .int .u64 mv], .agg #[.int .u8 d.tag, .int .i64 d.most, .int .i64 d.seg, .int .i64 d.least, .int .i64 d.den, .int .i64 d.ll, .int .i64 d.rl, .int .i64 d.rh, .int .i64 d.lh, .int .i64 t.seg, .slice wa' t.ws.length wc', .slice ka' t.ks.length kc', .slice va' t.vs.length vc', .slice ca' t.cs.length cc', .int .u64 t.laid, .slice ga' gs'.length gc', .slice pa' ps'.length pc', .int .u64 mv']] w (AnsB w (.bool false)) := by
  go_enter Tryz.func18, Tryz.ntmps18
  have hB0 : Below w.heap.size w ((w.alloc (.cells #[.int .u8 c.tag, .int .i64 c.most, .int .i64 c.seg, .int .i64 c.least, .int .i64 c.den, .int .i64 c.ll, .int .i64 c.rl, .int .i64 c.rh, .int .i64 c.lh, .int .i64 s.seg, .slice wa s.ws.length wc, .slice ka s.ks.length kc, .slice va s.vs.length vc, .slice ca s.cs.length cc, .int .u64 s.laid, .slice ga gs.length gc, .slice pa ps.length pc, .int .u64 mv] 33)).alloc (.cells #[.int .u8 d.tag, .int .i64 d.most, .int .i64 d.seg, .int .i64 d.least, .int .i64 d.den, .int .i64 d.ll, .int .i64 d.rl, .int .i64 d.rh, .int .i64 d.lh, .int .i64 t.seg, .slice wa' t.ws.length wc', .slice ka' t.ks.length kc', .slice va' t.vs.length vc', .slice ca' t.cs.length cc', .int .u64 t.laid, .slice ga' gs'.length gc', .slice pa' ps'.length pc', .int .u64 mv'] 33)) := by (exact xbel)
  go_wp2
  go_ret
  exact ⟨rfl, hB0⟩
theorem Sm15_p9 (c d : Cfg) (s t : SlC) (wa ka va ca : Option Addr) (wc kc vc cc : Nat) (wa' ka' va' ca' : Option Addr) (wc' kc' vc' cc' : Nat) (gs ps : List Int) (mv : Int) (ga pa : Option Addr) (gc pc : Nat) (gs' ps' : List Int) (mv' : Int) (ga' pa' : Option Addr) (gc' pc' : Nat) (w : World) (g0 : (c.tag == d.tag) = true) (g1 : (c.most == d.most) = true) (g2 : (c.seg == d.seg) = true) (g3 : (c.least == d.least) = true) (g4 : (c.den == d.den) = true) (g5 : (c.ll == d.ll) = true) (g6 : (c.rl == d.rl) = true) (g7 : (c.rh == d.rh) = true) (g8 : (c.lh == d.lh) = true) (gm : (mv == mv') = false) :
    Calls Tryz.prog 18 #[.agg #[.int .u8 c.tag, .int .i64 c.most, .int .i64 c.seg, .int .i64 c.least, .int .i64 c.den, .int .i64 c.ll, .int .i64 c.rl, .int .i64 c.rh, .int .i64 c.lh, .int .i64 s.seg, .slice wa s.ws.length wc, .slice ka s.ks.length kc, .slice va s.vs.length vc, .slice ca s.cs.length cc, .int .u64 s.laid, .slice ga gs.length gc, .slice pa ps.length pc, .int .u64 mv], .agg #[.int .u8 d.tag, .int .i64 d.most, .int .i64 d.seg, .int .i64 d.least, .int .i64 d.den, .int .i64 d.ll, .int .i64 d.rl, .int .i64 d.rh, .int .i64 d.lh, .int .i64 t.seg, .slice wa' t.ws.length wc', .slice ka' t.ks.length kc', .slice va' t.vs.length vc', .slice ca' t.cs.length cc', .int .u64 t.laid, .slice ga' gs'.length gc', .slice pa' ps'.length pc', .int .u64 mv']] w (AnsB w (.bool false)) := by
  go_enter Tryz.func18, Tryz.ntmps18
  have hB0 : Below w.heap.size w ((w.alloc (.cells #[.int .u8 c.tag, .int .i64 c.most, .int .i64 c.seg, .int .i64 c.least, .int .i64 c.den, .int .i64 c.ll, .int .i64 c.rl, .int .i64 c.rh, .int .i64 c.lh, .int .i64 s.seg, .slice wa s.ws.length wc, .slice ka s.ks.length kc, .slice va s.vs.length vc, .slice ca s.cs.length cc, .int .u64 s.laid, .slice ga gs.length gc, .slice pa ps.length pc, .int .u64 mv] 33)).alloc (.cells #[.int .u8 d.tag, .int .i64 d.most, .int .i64 d.seg, .int .i64 d.least, .int .i64 d.den, .int .i64 d.ll, .int .i64 d.rl, .int .i64 d.rh, .int .i64 d.lh, .int .i64 t.seg, .slice wa' t.ws.length wc', .slice ka' t.ks.length kc', .slice va' t.vs.length vc', .slice ca' t.cs.length cc', .int .u64 t.laid, .slice ga' gs'.length gc', .slice pa' ps'.length pc', .int .u64 mv'] 33)) := by (exact xbel)
  go_wp2
  go_ret
  exact ⟨rfl, hB0⟩
theorem Sm15_p10 (c d : Cfg) (s t : SlC) (wa ka va ca : Option Addr) (wc kc vc cc : Nat) (wa' ka' va' ca' : Option Addr) (wc' kc' vc' cc' : Nat) (gs ps : List Int) (mv : Int) (ga pa : Option Addr) (gc pc : Nat) (gs' ps' : List Int) (mv' : Int) (ga' pa' : Option Addr) (gc' pc' : Nat) (w : World) (g0 : (c.tag == d.tag) = true) (g1 : (c.most == d.most) = true) (g2 : (c.seg == d.seg) = true) (g3 : (c.least == d.least) = true) (g4 : (c.den == d.den) = true) (g5 : (c.ll == d.ll) = true) (g6 : (c.rl == d.rl) = true) (g7 : (c.rh == d.rh) = true) (g8 : (c.lh == d.lh) = true) (gm : (mv == mv') = true) (SM : Hid (∀ W, Below w.heap.size w W → Calls Tryz.prog 41 #[.agg #[.int .i64 s.seg, .slice wa s.ws.length wc, .slice ka s.ks.length kc, .slice va s.vs.length vc, .slice ca s.cs.length cc, .int .u64 s.laid], .agg #[.int .i64 t.seg, .slice wa' t.ws.length wc', .slice ka' t.ks.length kc', .slice va' t.vs.length vc', .slice ca' t.cs.length cc', .int .u64 t.laid]] W (AnsB W (.bool false)))) :
    Calls Tryz.prog 18 #[.agg #[.int .u8 c.tag, .int .i64 c.most, .int .i64 c.seg, .int .i64 c.least, .int .i64 c.den, .int .i64 c.ll, .int .i64 c.rl, .int .i64 c.rh, .int .i64 c.lh, .int .i64 s.seg, .slice wa s.ws.length wc, .slice ka s.ks.length kc, .slice va s.vs.length vc, .slice ca s.cs.length cc, .int .u64 s.laid, .slice ga gs.length gc, .slice pa ps.length pc, .int .u64 mv], .agg #[.int .u8 d.tag, .int .i64 d.most, .int .i64 d.seg, .int .i64 d.least, .int .i64 d.den, .int .i64 d.ll, .int .i64 d.rl, .int .i64 d.rh, .int .i64 d.lh, .int .i64 t.seg, .slice wa' t.ws.length wc', .slice ka' t.ks.length kc', .slice va' t.vs.length vc', .slice ca' t.cs.length cc', .int .u64 t.laid, .slice ga' gs'.length gc', .slice pa' ps'.length pc', .int .u64 mv']] w (AnsB w (.bool false)) := by
  go_enter Tryz.func18, Tryz.ntmps18
  go_wp2_with fail
  refine (SM.out _ (by (exact xbel))).mono ?_
  rintro e w1 ⟨rfl, hb1⟩
  have hz_w1 := hb1.size
  try simp only [World.size_alloc, World.size_setCell] at hz_w1
  have hh := bc18 hb1 (au18 (al18 (b := w.heap.size) (by simp)))
  obtain ⟨c_t0, c_t1, c_t2, c_t3, c_t4, c_t5, c_t6, c_t7, c_t8, c_t9, c_t10, c_t11, c_t12, c_t13, c_t14, c_t15, c_t16, c_t17⟩ := hh
  have z_t := blt hb1 (auz (alz (b := w.heap.size) (by simp)))
  have hh := bc18 hb1 (al18 (b := w.heap.size + 1) (by simp))
  obtain ⟨c_o0, c_o1, c_o2, c_o3, c_o4, c_o5, c_o6, c_o7, c_o8, c_o9, c_o10, c_o11, c_o12, c_o13, c_o14, c_o15, c_o16, c_o17⟩ := hh
  have z_o := blt hb1 (alz (b := w.heap.size + 1) (by simp))
  have hB1 : Below w.heap.size w w1 := by (exact xbel)
  have HB1 := Lib.hid hB1
  clear hb1 hB1
  go_wp2
  go_ret
  exact ⟨rfl, HB1.out⟩
theorem Sm15_p11 (c d : Cfg) (s t : SlC) (wa ka va ca : Option Addr) (wc kc vc cc : Nat) (wa' ka' va' ca' : Option Addr) (wc' kc' vc' cc' : Nat) (gs ps : List Int) (mv : Int) (ga pa : Option Addr) (gc pc : Nat) (gs' ps' : List Int) (mv' : Int) (ga' pa' : Option Addr) (gc' pc' : Nat) (w : World) (g0 : (c.tag == d.tag) = true) (g1 : (c.most == d.most) = true) (g2 : (c.seg == d.seg) = true) (g3 : (c.least == d.least) = true) (g4 : (c.den == d.den) = true) (g5 : (c.ll == d.ll) = true) (g6 : (c.rl == d.rl) = true) (g7 : (c.rh == d.rh) = true) (g8 : (c.lh == d.lh) = true) (gm : (mv == mv') = true) (SM : Hid (∀ W, Below w.heap.size w W → Calls Tryz.prog 41 #[.agg #[.int .i64 s.seg, .slice wa s.ws.length wc, .slice ka s.ks.length kc, .slice va s.vs.length vc, .slice ca s.cs.length cc, .int .u64 s.laid], .agg #[.int .i64 t.seg, .slice wa' t.ws.length wc', .slice ka' t.ks.length kc', .slice va' t.vs.length vc', .slice ca' t.cs.length cc', .int .u64 t.laid]] W (AnsB W (.bool true)))) (b : Bool) (HM : Hid (∀ W, Below w.heap.size w W → Calls Tryz.prog 42 #[.agg #[.slice ga gs.length gc, .slice pa ps.length pc], .agg #[.slice ga' gs'.length gc', .slice pa' ps'.length pc']] W (AnsB W (.bool b)))) :
    Calls Tryz.prog 18 #[.agg #[.int .u8 c.tag, .int .i64 c.most, .int .i64 c.seg, .int .i64 c.least, .int .i64 c.den, .int .i64 c.ll, .int .i64 c.rl, .int .i64 c.rh, .int .i64 c.lh, .int .i64 s.seg, .slice wa s.ws.length wc, .slice ka s.ks.length kc, .slice va s.vs.length vc, .slice ca s.cs.length cc, .int .u64 s.laid, .slice ga gs.length gc, .slice pa ps.length pc, .int .u64 mv], .agg #[.int .u8 d.tag, .int .i64 d.most, .int .i64 d.seg, .int .i64 d.least, .int .i64 d.den, .int .i64 d.ll, .int .i64 d.rl, .int .i64 d.rh, .int .i64 d.lh, .int .i64 t.seg, .slice wa' t.ws.length wc', .slice ka' t.ks.length kc', .slice va' t.vs.length vc', .slice ca' t.cs.length cc', .int .u64 t.laid, .slice ga' gs'.length gc', .slice pa' ps'.length pc', .int .u64 mv']] w (AnsB w (.bool b)) := by
  go_enter Tryz.func18, Tryz.ntmps18
  go_wp2_with fail
  refine (SM.out _ (by (exact xbel))).mono ?_
  rintro e w1 ⟨rfl, hb1⟩
  have hz_w1 := hb1.size
  try simp only [World.size_alloc, World.size_setCell] at hz_w1
  have hh := bc18 hb1 (au18 (al18 (b := w.heap.size) (by simp)))
  obtain ⟨c_t0, c_t1, c_t2, c_t3, c_t4, c_t5, c_t6, c_t7, c_t8, c_t9, c_t10, c_t11, c_t12, c_t13, c_t14, c_t15, c_t16, c_t17⟩ := hh
  have z_t := blt hb1 (auz (alz (b := w.heap.size) (by simp)))
  have hh := bc18 hb1 (al18 (b := w.heap.size + 1) (by simp))
  obtain ⟨c_o0, c_o1, c_o2, c_o3, c_o4, c_o5, c_o6, c_o7, c_o8, c_o9, c_o10, c_o11, c_o12, c_o13, c_o14, c_o15, c_o16, c_o17⟩ := hh
  have z_o := blt hb1 (alz (b := w.heap.size + 1) (by simp))
  have hB1 : Below w.heap.size w w1 := by (exact xbel)
  have HB1 := Lib.hid hB1
  clear hb1 hB1
  go_wp2_with fail
  refine (HM.out _ HB1.out).mono ?_
  rintro e w2 ⟨rfl, hb2⟩
  have hz_w2 := hb2.size
  try simp only [World.size_alloc, World.size_setCell] at hz_w2
  have hh := bc18 hb2 ⟨c_t0, c_t1, c_t2, c_t3, c_t4, c_t5, c_t6, c_t7, c_t8, c_t9, c_t10, c_t11, c_t12, c_t13, c_t14, c_t15, c_t16, c_t17⟩
  clear c_t0 c_t1 c_t2 c_t3 c_t4 c_t5 c_t6 c_t7 c_t8 c_t9 c_t10 c_t11 c_t12 c_t13 c_t14 c_t15 c_t16 c_t17
  obtain ⟨c_t0, c_t1, c_t2, c_t3, c_t4, c_t5, c_t6, c_t7, c_t8, c_t9, c_t10, c_t11, c_t12, c_t13, c_t14, c_t15, c_t16, c_t17⟩ := hh
  replace z_t := blt hb2 z_t
  have hh := bc18 hb2 ⟨c_o0, c_o1, c_o2, c_o3, c_o4, c_o5, c_o6, c_o7, c_o8, c_o9, c_o10, c_o11, c_o12, c_o13, c_o14, c_o15, c_o16, c_o17⟩
  clear c_o0 c_o1 c_o2 c_o3 c_o4 c_o5 c_o6 c_o7 c_o8 c_o9 c_o10 c_o11 c_o12 c_o13 c_o14 c_o15 c_o16 c_o17
  obtain ⟨c_o0, c_o1, c_o2, c_o3, c_o4, c_o5, c_o6, c_o7, c_o8, c_o9, c_o10, c_o11, c_o12, c_o13, c_o14, c_o15, c_o16, c_o17⟩ := hh
  replace z_o := blt hb2 z_o
  have HB2 := Lib.hid (below_via hb2 HB1.out HB1.out.size)
  clear hb2
  go_wp2
  go_ret
  exact ⟨rfl, HB2.out⟩
theorem Sm15_ok (c d : Cfg) (s t : SlC) (a a' : SlA) (gs ps : List Int) (mv : Int) (ga pa : Option Addr) (gc pc : Nat) (gs' ps' : List Int) (mv' : Int) (ga' pa' : Option Addr) (gc' pc' : Nat) (w : World) (hin : SlIn w s a) (hin' : SlIn w t a') (hg : IsRow .i64 w ga gs) (hp : IsRow .i64 w pa ps) (hg' : IsRow .i64 w ga' gs') (hp' : IsRow .i64 w pa' ps') (hl1 : s.ws.length ≤ 1000000000) (hl2 : s.ks.length ≤ 1000000000) (hl3 : s.vs.length ≤ 1000000000) (hl4 : s.cs.length ≤ 1000000000) (hl5 : gs.length ≤ 1000000000) (hl6 : ps.length ≤ 1000000000) :
    Calls Tryz.prog 18 #[omV c s a.wa a.ka a.va a.ca a.wc a.kc a.vc a.cc gs ps mv ga pa gc pc, omV d t a'.wa a'.ka a'.va a'.ca a'.wc a'.kc a'.vc a'.cc gs' ps' mv' ga' pa' gc' pc'] w (AnsB w (.bool (omB c s gs ps mv d t gs' ps' mv'))) := by
  unfold omB cfB
  by_cases h0 : c.tag = d.tag
  case neg =>
    have g0 : (c.tag == d.tag) = false := by simpa using h0
    simp only [decide_eq_false h0, Bool.false_and]
    exact Sm15_p0 c d s t a.wa a.ka a.va a.ca a.wc a.kc a.vc a.cc a'.wa a'.ka a'.va a'.ca a'.wc a'.kc a'.vc a'.cc gs ps mv ga pa gc pc gs' ps' mv' ga' pa' gc' pc' w  g0
  have g0 : (c.tag == d.tag) = true := by simpa using h0
  rw [decide_eq_true h0, Bool.true_and]
  by_cases h1 : c.most = d.most
  case neg =>
    have g1 : (c.most == d.most) = false := by simpa using h1
    simp only [decide_eq_false h1, Bool.false_and]
    exact Sm15_p1 c d s t a.wa a.ka a.va a.ca a.wc a.kc a.vc a.cc a'.wa a'.ka a'.va a'.ca a'.wc a'.kc a'.vc a'.cc gs ps mv ga pa gc pc gs' ps' mv' ga' pa' gc' pc' w g0 g1
  have g1 : (c.most == d.most) = true := by simpa using h1
  rw [decide_eq_true h1, Bool.true_and]
  by_cases h2 : c.seg = d.seg
  case neg =>
    have g2 : (c.seg == d.seg) = false := by simpa using h2
    simp only [decide_eq_false h2, Bool.false_and]
    exact Sm15_p2 c d s t a.wa a.ka a.va a.ca a.wc a.kc a.vc a.cc a'.wa a'.ka a'.va a'.ca a'.wc a'.kc a'.vc a'.cc gs ps mv ga pa gc pc gs' ps' mv' ga' pa' gc' pc' w g0 g1 g2
  have g2 : (c.seg == d.seg) = true := by simpa using h2
  rw [decide_eq_true h2, Bool.true_and]
  by_cases h3 : c.least = d.least
  case neg =>
    have g3 : (c.least == d.least) = false := by simpa using h3
    simp only [decide_eq_false h3, Bool.false_and]
    exact Sm15_p3 c d s t a.wa a.ka a.va a.ca a.wc a.kc a.vc a.cc a'.wa a'.ka a'.va a'.ca a'.wc a'.kc a'.vc a'.cc gs ps mv ga pa gc pc gs' ps' mv' ga' pa' gc' pc' w g0 g1 g2 g3
  have g3 : (c.least == d.least) = true := by simpa using h3
  rw [decide_eq_true h3, Bool.true_and]
  by_cases h4 : c.den = d.den
  case neg =>
    have g4 : (c.den == d.den) = false := by simpa using h4
    simp only [decide_eq_false h4, Bool.false_and]
    exact Sm15_p4 c d s t a.wa a.ka a.va a.ca a.wc a.kc a.vc a.cc a'.wa a'.ka a'.va a'.ca a'.wc a'.kc a'.vc a'.cc gs ps mv ga pa gc pc gs' ps' mv' ga' pa' gc' pc' w g0 g1 g2 g3 g4
  have g4 : (c.den == d.den) = true := by simpa using h4
  rw [decide_eq_true h4, Bool.true_and]
  by_cases h5 : c.ll = d.ll
  case neg =>
    have g5 : (c.ll == d.ll) = false := by simpa using h5
    simp only [decide_eq_false h5, Bool.false_and]
    exact Sm15_p5 c d s t a.wa a.ka a.va a.ca a.wc a.kc a.vc a.cc a'.wa a'.ka a'.va a'.ca a'.wc a'.kc a'.vc a'.cc gs ps mv ga pa gc pc gs' ps' mv' ga' pa' gc' pc' w g0 g1 g2 g3 g4 g5
  have g5 : (c.ll == d.ll) = true := by simpa using h5
  rw [decide_eq_true h5, Bool.true_and]
  by_cases h6 : c.rl = d.rl
  case neg =>
    have g6 : (c.rl == d.rl) = false := by simpa using h6
    simp only [decide_eq_false h6, Bool.false_and]
    exact Sm15_p6 c d s t a.wa a.ka a.va a.ca a.wc a.kc a.vc a.cc a'.wa a'.ka a'.va a'.ca a'.wc a'.kc a'.vc a'.cc gs ps mv ga pa gc pc gs' ps' mv' ga' pa' gc' pc' w g0 g1 g2 g3 g4 g5 g6
  have g6 : (c.rl == d.rl) = true := by simpa using h6
  rw [decide_eq_true h6, Bool.true_and]
  by_cases h7 : c.rh = d.rh
  case neg =>
    have g7 : (c.rh == d.rh) = false := by simpa using h7
    simp only [decide_eq_false h7, Bool.false_and]
    exact Sm15_p7 c d s t a.wa a.ka a.va a.ca a.wc a.kc a.vc a.cc a'.wa a'.ka a'.va a'.ca a'.wc a'.kc a'.vc a'.cc gs ps mv ga pa gc pc gs' ps' mv' ga' pa' gc' pc' w g0 g1 g2 g3 g4 g5 g6 g7
  have g7 : (c.rh == d.rh) = true := by simpa using h7
  rw [decide_eq_true h7, Bool.true_and]
  by_cases h8 : c.lh = d.lh
  case neg =>
    have g8 : (c.lh == d.lh) = false := by simpa using h8
    simp only [decide_eq_false h8, Bool.false_and]
    exact Sm15_p8 c d s t a.wa a.ka a.va a.ca a.wc a.kc a.vc a.cc a'.wa a'.ka a'.va a'.ca a'.wc a'.kc a'.vc a'.cc gs ps mv ga pa gc pc gs' ps' mv' ga' pa' gc' pc' w g0 g1 g2 g3 g4 g5 g6 g7 g8
  have g8 : (c.lh == d.lh) = true := by simpa using h8
  rw [decide_eq_true h8, Bool.true_and]
  by_cases hm : mv = mv'
  case neg =>
    have gm : (mv == mv') = false := by simpa using hm
    rw [decide_eq_false hm, Bool.false_and]
    exact Sm15_p9 c d s t a.wa a.ka a.va a.ca a.wc a.kc a.vc a.cc a'.wa a'.ka a'.va a'.ca a'.wc a'.kc a'.vc a'.cc gs ps mv ga pa gc pc gs' ps' mv' ga' pa' gc' pc' w g0 g1 g2 g3 g4 g5 g6 g7 g8 gm
  have gm : (mv == mv') = true := by simpa using hm
  rw [decide_eq_true hm, Bool.true_and]
  have SM := Lib.hid (fun W (hb : Below w.heap.size w W) => Sm04_ok s t a a' W (hin.below hb) (hin'.below hb) hl1 hl2 hl3 hl4)
  cases hs : sameB s t with
  | false => rw [hs] at SM; exact Sm15_p10 c d s t a.wa a.ka a.va a.ca a.wc a.kc a.vc a.cc a'.wa a'.ka a'.va a'.ca a'.wc a'.kc a'.vc a'.cc gs ps mv ga pa gc pc gs' ps' mv' ga' pa' gc' pc' w g0 g1 g2 g3 g4 g5 g6 g7 g8 gm SM
  | true =>
    rw [hs] at SM
    rw [Bool.true_and]
    exact Sm15_p11 c d s t a.wa a.ka a.va a.ca a.wc a.kc a.vc a.cc a'.wa a'.ka a'.va a'.ca a'.wc a'.kc a'.vc a'.cc gs ps mv ga pa gc pc gs' ps' mv' ga' pa' gc' pc' w g0 g1 g2 g3 g4 g5 g6 g7 g8 gm SM _ (Lib.hid fun W hb => Same14_ok ga pa ga' pa' gc pc gc' pc' gs ps gs' ps' W (hg.below hb) (hp.below hb) (hg'.below hb) (hp'.below hb) hl5 hl6)
theorem SmOm_p0 (c d : Cfg) (s t : SlC) (wa ka va ca : Option Addr) (wc kc vc cc : Nat) (wa' ka' va' ca' : Option Addr) (wc' kc' vc' cc' : Nat) (gs ps : List Int) (mv : Int) (ga pa : Option Addr) (gc pc : Nat) (gs' ps' : List Int) (mv' : Int) (ga' pa' : Option Addr) (gc' pc' : Nat) (w : World) (g0 : (c.tag == d.tag) = false) :
    Calls Tryz.prog 17 #[.agg #[.int .u8 c.tag, .int .i64 c.most, .int .i64 c.seg, .int .i64 c.least, .int .i64 c.den, .int .i64 c.ll, .int .i64 c.rl, .int .i64 c.rh, .int .i64 c.lh, .int .i64 s.seg, .slice wa s.ws.length wc, .slice ka s.ks.length kc, .slice va s.vs.length vc, .slice ca s.cs.length cc, .int .u64 s.laid, .slice ga gs.length gc, .slice pa ps.length pc, .int .u64 mv], .agg #[.int .u8 d.tag, .int .i64 d.most, .int .i64 d.seg, .int .i64 d.least, .int .i64 d.den, .int .i64 d.ll, .int .i64 d.rl, .int .i64 d.rh, .int .i64 d.lh, .int .i64 t.seg, .slice wa' t.ws.length wc', .slice ka' t.ks.length kc', .slice va' t.vs.length vc', .slice ca' t.cs.length cc', .int .u64 t.laid, .slice ga' gs'.length gc', .slice pa' ps'.length pc', .int .u64 mv']] w (AnsB w (.bool false)) := by
  go_enter Tryz.func17, Tryz.ntmps17
  have hB0 : Below w.heap.size w ((w.alloc (.cells #[.int .u8 c.tag, .int .i64 c.most, .int .i64 c.seg, .int .i64 c.least, .int .i64 c.den, .int .i64 c.ll, .int .i64 c.rl, .int .i64 c.rh, .int .i64 c.lh, .int .i64 s.seg, .slice wa s.ws.length wc, .slice ka s.ks.length kc, .slice va s.vs.length vc, .slice ca s.cs.length cc, .int .u64 s.laid, .slice ga gs.length gc, .slice pa ps.length pc, .int .u64 mv] 33)).alloc (.cells #[.int .u8 d.tag, .int .i64 d.most, .int .i64 d.seg, .int .i64 d.least, .int .i64 d.den, .int .i64 d.ll, .int .i64 d.rl, .int .i64 d.rh, .int .i64 d.lh, .int .i64 t.seg, .slice wa' t.ws.length wc', .slice ka' t.ks.length kc', .slice va' t.vs.length vc', .slice ca' t.cs.length cc', .int .u64 t.laid, .slice ga' gs'.length gc', .slice pa' ps'.length pc', .int .u64 mv'] 33)) := by (exact xbel)
  go_wp2
  go_ret
  exact ⟨rfl, hB0⟩
theorem SmOm_p1 (c d : Cfg) (s t : SlC) (wa ka va ca : Option Addr) (wc kc vc cc : Nat) (wa' ka' va' ca' : Option Addr) (wc' kc' vc' cc' : Nat) (gs ps : List Int) (mv : Int) (ga pa : Option Addr) (gc pc : Nat) (gs' ps' : List Int) (mv' : Int) (ga' pa' : Option Addr) (gc' pc' : Nat) (w : World) (g0 : (c.tag == d.tag) = true) (g1 : (c.most == d.most) = false) :
    Calls Tryz.prog 17 #[.agg #[.int .u8 c.tag, .int .i64 c.most, .int .i64 c.seg, .int .i64 c.least, .int .i64 c.den, .int .i64 c.ll, .int .i64 c.rl, .int .i64 c.rh, .int .i64 c.lh, .int .i64 s.seg, .slice wa s.ws.length wc, .slice ka s.ks.length kc, .slice va s.vs.length vc, .slice ca s.cs.length cc, .int .u64 s.laid, .slice ga gs.length gc, .slice pa ps.length pc, .int .u64 mv], .agg #[.int .u8 d.tag, .int .i64 d.most, .int .i64 d.seg, .int .i64 d.least, .int .i64 d.den, .int .i64 d.ll, .int .i64 d.rl, .int .i64 d.rh, .int .i64 d.lh, .int .i64 t.seg, .slice wa' t.ws.length wc', .slice ka' t.ks.length kc', .slice va' t.vs.length vc', .slice ca' t.cs.length cc', .int .u64 t.laid, .slice ga' gs'.length gc', .slice pa' ps'.length pc', .int .u64 mv']] w (AnsB w (.bool false)) := by
  go_enter Tryz.func17, Tryz.ntmps17
  have hB0 : Below w.heap.size w ((w.alloc (.cells #[.int .u8 c.tag, .int .i64 c.most, .int .i64 c.seg, .int .i64 c.least, .int .i64 c.den, .int .i64 c.ll, .int .i64 c.rl, .int .i64 c.rh, .int .i64 c.lh, .int .i64 s.seg, .slice wa s.ws.length wc, .slice ka s.ks.length kc, .slice va s.vs.length vc, .slice ca s.cs.length cc, .int .u64 s.laid, .slice ga gs.length gc, .slice pa ps.length pc, .int .u64 mv] 33)).alloc (.cells #[.int .u8 d.tag, .int .i64 d.most, .int .i64 d.seg, .int .i64 d.least, .int .i64 d.den, .int .i64 d.ll, .int .i64 d.rl, .int .i64 d.rh, .int .i64 d.lh, .int .i64 t.seg, .slice wa' t.ws.length wc', .slice ka' t.ks.length kc', .slice va' t.vs.length vc', .slice ca' t.cs.length cc', .int .u64 t.laid, .slice ga' gs'.length gc', .slice pa' ps'.length pc', .int .u64 mv'] 33)) := by (exact xbel)
  go_wp2
  go_ret
  exact ⟨rfl, hB0⟩
theorem SmOm_p2 (c d : Cfg) (s t : SlC) (wa ka va ca : Option Addr) (wc kc vc cc : Nat) (wa' ka' va' ca' : Option Addr) (wc' kc' vc' cc' : Nat) (gs ps : List Int) (mv : Int) (ga pa : Option Addr) (gc pc : Nat) (gs' ps' : List Int) (mv' : Int) (ga' pa' : Option Addr) (gc' pc' : Nat) (w : World) (g0 : (c.tag == d.tag) = true) (g1 : (c.most == d.most) = true) (g2 : (c.seg == d.seg) = false) :
    Calls Tryz.prog 17 #[.agg #[.int .u8 c.tag, .int .i64 c.most, .int .i64 c.seg, .int .i64 c.least, .int .i64 c.den, .int .i64 c.ll, .int .i64 c.rl, .int .i64 c.rh, .int .i64 c.lh, .int .i64 s.seg, .slice wa s.ws.length wc, .slice ka s.ks.length kc, .slice va s.vs.length vc, .slice ca s.cs.length cc, .int .u64 s.laid, .slice ga gs.length gc, .slice pa ps.length pc, .int .u64 mv], .agg #[.int .u8 d.tag, .int .i64 d.most, .int .i64 d.seg, .int .i64 d.least, .int .i64 d.den, .int .i64 d.ll, .int .i64 d.rl, .int .i64 d.rh, .int .i64 d.lh, .int .i64 t.seg, .slice wa' t.ws.length wc', .slice ka' t.ks.length kc', .slice va' t.vs.length vc', .slice ca' t.cs.length cc', .int .u64 t.laid, .slice ga' gs'.length gc', .slice pa' ps'.length pc', .int .u64 mv']] w (AnsB w (.bool false)) := by
  go_enter Tryz.func17, Tryz.ntmps17
  have hB0 : Below w.heap.size w ((w.alloc (.cells #[.int .u8 c.tag, .int .i64 c.most, .int .i64 c.seg, .int .i64 c.least, .int .i64 c.den, .int .i64 c.ll, .int .i64 c.rl, .int .i64 c.rh, .int .i64 c.lh, .int .i64 s.seg, .slice wa s.ws.length wc, .slice ka s.ks.length kc, .slice va s.vs.length vc, .slice ca s.cs.length cc, .int .u64 s.laid, .slice ga gs.length gc, .slice pa ps.length pc, .int .u64 mv] 33)).alloc (.cells #[.int .u8 d.tag, .int .i64 d.most, .int .i64 d.seg, .int .i64 d.least, .int .i64 d.den, .int .i64 d.ll, .int .i64 d.rl, .int .i64 d.rh, .int .i64 d.lh, .int .i64 t.seg, .slice wa' t.ws.length wc', .slice ka' t.ks.length kc', .slice va' t.vs.length vc', .slice ca' t.cs.length cc', .int .u64 t.laid, .slice ga' gs'.length gc', .slice pa' ps'.length pc', .int .u64 mv'] 33)) := by (exact xbel)
  go_wp2
  go_ret
  exact ⟨rfl, hB0⟩
theorem SmOm_p3 (c d : Cfg) (s t : SlC) (wa ka va ca : Option Addr) (wc kc vc cc : Nat) (wa' ka' va' ca' : Option Addr) (wc' kc' vc' cc' : Nat) (gs ps : List Int) (mv : Int) (ga pa : Option Addr) (gc pc : Nat) (gs' ps' : List Int) (mv' : Int) (ga' pa' : Option Addr) (gc' pc' : Nat) (w : World) (g0 : (c.tag == d.tag) = true) (g1 : (c.most == d.most) = true) (g2 : (c.seg == d.seg) = true) (g3 : (c.least == d.least) = false) :
    Calls Tryz.prog 17 #[.agg #[.int .u8 c.tag, .int .i64 c.most, .int .i64 c.seg, .int .i64 c.least, .int .i64 c.den, .int .i64 c.ll, .int .i64 c.rl, .int .i64 c.rh, .int .i64 c.lh, .int .i64 s.seg, .slice wa s.ws.length wc, .slice ka s.ks.length kc, .slice va s.vs.length vc, .slice ca s.cs.length cc, .int .u64 s.laid, .slice ga gs.length gc, .slice pa ps.length pc, .int .u64 mv], .agg #[.int .u8 d.tag, .int .i64 d.most, .int .i64 d.seg, .int .i64 d.least, .int .i64 d.den, .int .i64 d.ll, .int .i64 d.rl, .int .i64 d.rh, .int .i64 d.lh, .int .i64 t.seg, .slice wa' t.ws.length wc', .slice ka' t.ks.length kc', .slice va' t.vs.length vc', .slice ca' t.cs.length cc', .int .u64 t.laid, .slice ga' gs'.length gc', .slice pa' ps'.length pc', .int .u64 mv']] w (AnsB w (.bool false)) := by
  go_enter Tryz.func17, Tryz.ntmps17
  have hB0 : Below w.heap.size w ((w.alloc (.cells #[.int .u8 c.tag, .int .i64 c.most, .int .i64 c.seg, .int .i64 c.least, .int .i64 c.den, .int .i64 c.ll, .int .i64 c.rl, .int .i64 c.rh, .int .i64 c.lh, .int .i64 s.seg, .slice wa s.ws.length wc, .slice ka s.ks.length kc, .slice va s.vs.length vc, .slice ca s.cs.length cc, .int .u64 s.laid, .slice ga gs.length gc, .slice pa ps.length pc, .int .u64 mv] 33)).alloc (.cells #[.int .u8 d.tag, .int .i64 d.most, .int .i64 d.seg, .int .i64 d.least, .int .i64 d.den, .int .i64 d.ll, .int .i64 d.rl, .int .i64 d.rh, .int .i64 d.lh, .int .i64 t.seg, .slice wa' t.ws.length wc', .slice ka' t.ks.length kc', .slice va' t.vs.length vc', .slice ca' t.cs.length cc', .int .u64 t.laid, .slice ga' gs'.length gc', .slice pa' ps'.length pc', .int .u64 mv'] 33)) := by (exact xbel)
  go_wp2
  go_ret
  exact ⟨rfl, hB0⟩
theorem SmOm_p4 (c d : Cfg) (s t : SlC) (wa ka va ca : Option Addr) (wc kc vc cc : Nat) (wa' ka' va' ca' : Option Addr) (wc' kc' vc' cc' : Nat) (gs ps : List Int) (mv : Int) (ga pa : Option Addr) (gc pc : Nat) (gs' ps' : List Int) (mv' : Int) (ga' pa' : Option Addr) (gc' pc' : Nat) (w : World) (g0 : (c.tag == d.tag) = true) (g1 : (c.most == d.most) = true) (g2 : (c.seg == d.seg) = true) (g3 : (c.least == d.least) = true) (g4 : (c.den == d.den) = false) :
    Calls Tryz.prog 17 #[.agg #[.int .u8 c.tag, .int .i64 c.most, .int .i64 c.seg, .int .i64 c.least, .int .i64 c.den, .int .i64 c.ll, .int .i64 c.rl, .int .i64 c.rh, .int .i64 c.lh, .int .i64 s.seg, .slice wa s.ws.length wc, .slice ka s.ks.length kc, .slice va s.vs.length vc, .slice ca s.cs.length cc, .int .u64 s.laid, .slice ga gs.length gc, .slice pa ps.length pc, .int .u64 mv], .agg #[.int .u8 d.tag, .int .i64 d.most, .int .i64 d.seg, .int .i64 d.least, .int .i64 d.den, .int .i64 d.ll, .int .i64 d.rl, .int .i64 d.rh, .int .i64 d.lh, .int .i64 t.seg, .slice wa' t.ws.length wc', .slice ka' t.ks.length kc', .slice va' t.vs.length vc', .slice ca' t.cs.length cc', .int .u64 t.laid, .slice ga' gs'.length gc', .slice pa' ps'.length pc', .int .u64 mv']] w (AnsB w (.bool false)) := by
  go_enter Tryz.func17, Tryz.ntmps17
  have hB0 : Below w.heap.size w ((w.alloc (.cells #[.int .u8 c.tag, .int .i64 c.most, .int .i64 c.seg, .int .i64 c.least, .int .i64 c.den, .int .i64 c.ll, .int .i64 c.rl, .int .i64 c.rh, .int .i64 c.lh, .int .i64 s.seg, .slice wa s.ws.length wc, .slice ka s.ks.length kc, .slice va s.vs.length vc, .slice ca s.cs.length cc, .int .u64 s.laid, .slice ga gs.length gc, .slice pa ps.length pc, .int .u64 mv] 33)).alloc (.cells #[.int .u8 d.tag, .int .i64 d.most, .int .i64 d.seg, .int .i64 d.least, .int .i64 d.den, .int .i64 d.ll, .int .i64 d.rl, .int .i64 d.rh, .int .i64 d.lh, .int .i64 t.seg, .slice wa' t.ws.length wc', .slice ka' t.ks.length kc', .slice va' t.vs.length vc', .slice ca' t.cs.length cc', .int .u64 t.laid, .slice ga' gs'.length gc', .slice pa' ps'.length pc', .int .u64 mv'] 33)) := by (exact xbel)
  go_wp2
  go_ret
  exact ⟨rfl, hB0⟩
theorem SmOm_p5 (c d : Cfg) (s t : SlC) (wa ka va ca : Option Addr) (wc kc vc cc : Nat) (wa' ka' va' ca' : Option Addr) (wc' kc' vc' cc' : Nat) (gs ps : List Int) (mv : Int) (ga pa : Option Addr) (gc pc : Nat) (gs' ps' : List Int) (mv' : Int) (ga' pa' : Option Addr) (gc' pc' : Nat) (w : World) (g0 : (c.tag == d.tag) = true) (g1 : (c.most == d.most) = true) (g2 : (c.seg == d.seg) = true) (g3 : (c.least == d.least) = true) (g4 : (c.den == d.den) = true) (g5 : (c.ll == d.ll) = false) :
    Calls Tryz.prog 17 #[.agg #[.int .u8 c.tag, .int .i64 c.most, .int .i64 c.seg, .int .i64 c.least, .int .i64 c.den, .int .i64 c.ll, .int .i64 c.rl, .int .i64 c.rh, .int .i64 c.lh, .int .i64 s.seg, .slice wa s.ws.length wc, .slice ka s.ks.length kc, .slice va s.vs.length vc, .slice ca s.cs.length cc, .int .u64 s.laid, .slice ga gs.length gc, .slice pa ps.length pc, .int .u64 mv], .agg #[.int .u8 d.tag, .int .i64 d.most, .int .i64 d.seg, .int .i64 d.least, .int .i64 d.den, .int .i64 d.ll, .int .i64 d.rl, .int .i64 d.rh, .int .i64 d.lh, .int .i64 t.seg, .slice wa' t.ws.length wc', .slice ka' t.ks.length kc', .slice va' t.vs.length vc', .slice ca' t.cs.length cc', .int .u64 t.laid, .slice ga' gs'.length gc', .slice pa' ps'.length pc', .int .u64 mv']] w (AnsB w (.bool false)) := by
  go_enter Tryz.func17, Tryz.ntmps17
  have hB0 : Below w.heap.size w ((w.alloc (.cells #[.int .u8 c.tag, .int .i64 c.most, .int .i64 c.seg, .int .i64 c.least, .int .i64 c.den, .int .i64 c.ll, .int .i64 c.rl, .int .i64 c.rh, .int .i64 c.lh, .int .i64 s.seg, .slice wa s.ws.length wc, .slice ka s.ks.length kc, .slice va s.vs.length vc, .slice ca s.cs.length cc, .int .u64 s.laid, .slice ga gs.length gc, .slice pa ps.length pc, .int .u64 mv] 33)).alloc (.cells #[.int .u8 d.tag, .int .i64 d.most, .int .i64 d.seg, .int .i64 d.least, .int .i64 d.den, .int .i64 d.ll, .int .i64 d.rl, .int .i64 d.rh, .int .i64 d.lh, .int .i64 t.seg, .slice wa' t.ws.length wc', .slice ka' t.ks.length kc', .slice va' t.vs.length vc', .slice ca' t.cs.length cc', .int .u64 t.laid, .slice ga' gs'.length gc', .slice pa' ps'.length pc', .int .u64 mv'] 33)) := by (exact xbel)
  go_wp2
  go_ret
  exact ⟨rfl, hB0⟩
theorem SmOm_p6 (c d : Cfg) (s t : SlC) (wa ka va ca : Option Addr) (wc kc vc cc : Nat) (wa' ka' va' ca' : Option Addr) (wc' kc' vc' cc' : Nat) (gs ps : List Int) (mv : Int) (ga pa : Option Addr) (gc pc : Nat) (gs' ps' : List Int) (mv' : Int) (ga' pa' : Option Addr) (gc' pc' : Nat) (w : World) (g0 : (c.tag == d.tag) = true) (g1 : (c.most == d.most) = true) (g2 : (c.seg == d.seg) = true) (g3 : (c.least == d.least) = true) (g4 : (c.den == d.den) = true) (g5 : (c.ll == d.ll) = true) (g6 : (c.rl == d.rl) = false) :
    Calls Tryz.prog 17 #[.agg #[.int .u8 c.tag, .int .i64 c.most, .int .i64 c.seg, .int .i64 c.least, .int .i64 c.den, .int .i64 c.ll, .int .i64 c.rl, .int .i64 c.rh, .int .i64 c.lh, .int .i64 s.seg, .slice wa s.ws.length wc, .slice ka s.ks.length kc, .slice va s.vs.length vc, .slice ca s.cs.length cc, .int .u64 s.laid, .slice ga gs.length gc, .slice pa ps.length pc, .int .u64 mv], .agg #[.int .u8 d.tag, .int .i64 d.most, .int .i64 d.seg, .int .i64 d.least, .int .i64 d.den, .int .i64 d.ll, .int .i64 d.rl, .int .i64 d.rh, .int .i64 d.lh, .int .i64 t.seg, .slice wa' t.ws.length wc', .slice ka' t.ks.length kc', .slice va' t.vs.length vc', .slice ca' t.cs.length cc', .int .u64 t.laid, .slice ga' gs'.length gc', .slice pa' ps'.length pc', .int .u64 mv']] w (AnsB w (.bool false)) := by
  go_enter Tryz.func17, Tryz.ntmps17
  have hB0 : Below w.heap.size w ((w.alloc (.cells #[.int .u8 c.tag, .int .i64 c.most, .int .i64 c.seg, .int .i64 c.least, .int .i64 c.den, .int .i64 c.ll, .int .i64 c.rl, .int .i64 c.rh, .int .i64 c.lh, .int .i64 s.seg, .slice wa s.ws.length wc, .slice ka s.ks.length kc, .slice va s.vs.length vc, .slice ca s.cs.length cc, .int .u64 s.laid, .slice ga gs.length gc, .slice pa ps.length pc, .int .u64 mv] 33)).alloc (.cells #[.int .u8 d.tag, .int .i64 d.most, .int .i64 d.seg, .int .i64 d.least, .int .i64 d.den, .int .i64 d.ll, .int .i64 d.rl, .int .i64 d.rh, .int .i64 d.lh, .int .i64 t.seg, .slice wa' t.ws.length wc', .slice ka' t.ks.length kc', .slice va' t.vs.length vc', .slice ca' t.cs.length cc', .int .u64 t.laid, .slice ga' gs'.length gc', .slice pa' ps'.length pc', .int .u64 mv'] 33)) := by (exact xbel)
  go_wp2
  go_ret
  exact ⟨rfl, hB0⟩
theorem SmOm_p7 (c d : Cfg) (s t : SlC) (wa ka va ca : Option Addr) (wc kc vc cc : Nat) (wa' ka' va' ca' : Option Addr) (wc' kc' vc' cc' : Nat) (gs ps : List Int) (mv : Int) (ga pa : Option Addr) (gc pc : Nat) (gs' ps' : List Int) (mv' : Int) (ga' pa' : Option Addr) (gc' pc' : Nat) (w : World) (g0 : (c.tag == d.tag) = true) (g1 : (c.most == d.most) = true) (g2 : (c.seg == d.seg) = true) (g3 : (c.least == d.least) = true) (g4 : (c.den == d.den) = true) (g5 : (c.ll == d.ll) = true) (g6 : (c.rl == d.rl) = true) (g7 : (c.rh == d.rh) = false) :
    Calls Tryz.prog 17 #[.agg #[.int .u8 c.tag, .int .i64 c.most, .int .i64 c.seg, .int .i64 c.least, .int .i64 c.den, .int .i64 c.ll, .int .i64 c.rl, .int .i64 c.rh, .int .i64 c.lh, .int .i64 s.seg, .slice wa s.ws.length wc, .slice ka s.ks.length kc, .slice va s.vs.length vc, .slice ca s.cs.length cc, .int .u64 s.laid, .slice ga gs.length gc, .slice pa ps.length pc, .int .u64 mv], .agg #[.int .u8 d.tag, .int .i64 d.most, .int .i64 d.seg, .int .i64 d.least, .int .i64 d.den, .int .i64 d.ll, .int .i64 d.rl, .int .i64 d.rh, .int .i64 d.lh, .int .i64 t.seg, .slice wa' t.ws.length wc', .slice ka' t.ks.length kc', .slice va' t.vs.length vc', .slice ca' t.cs.length cc', .int .u64 t.laid, .slice ga' gs'.length gc', .slice pa' ps'.length pc', .int .u64 mv']] w (AnsB w (.bool false)) := by
  go_enter Tryz.func17, Tryz.ntmps17
  have hB0 : Below w.heap.size w ((w.alloc (.cells #[.int .u8 c.tag, .int .i64 c.most, .int .i64 c.seg, .int .i64 c.least, .int .i64 c.den, .int .i64 c.ll, .int .i64 c.rl, .int .i64 c.rh, .int .i64 c.lh, .int .i64 s.seg, .slice wa s.ws.length wc, .slice ka s.ks.length kc, .slice va s.vs.length vc, .slice ca s.cs.length cc, .int .u64 s.laid, .slice ga gs.length gc, .slice pa ps.length pc, .int .u64 mv] 33)).alloc (.cells #[.int .u8 d.tag, .int .i64 d.most, .int .i64 d.seg, .int .i64 d.least, .int .i64 d.den, .int .i64 d.ll, .int .i64 d.rl, .int .i64 d.rh, .int .i64 d.lh, .int .i64 t.seg, .slice wa' t.ws.length wc', .slice ka' t.ks.length kc', .slice va' t.vs.length vc', .slice ca' t.cs.length cc', .int .u64 t.laid, .slice ga' gs'.length gc', .slice pa' ps'.length pc', .int .u64 mv'] 33)) := by (exact xbel)
  go_wp2
  go_ret
  exact ⟨rfl, hB0⟩
theorem SmOm_p8 (c d : Cfg) (s t : SlC) (wa ka va ca : Option Addr) (wc kc vc cc : Nat) (wa' ka' va' ca' : Option Addr) (wc' kc' vc' cc' : Nat) (gs ps : List Int) (mv : Int) (ga pa : Option Addr) (gc pc : Nat) (gs' ps' : List Int) (mv' : Int) (ga' pa' : Option Addr) (gc' pc' : Nat) (w : World) (g0 : (c.tag == d.tag) = true) (g1 : (c.most == d.most) = true) (g2 : (c.seg == d.seg) = true) (g3 : (c.least == d.least) = true) (g4 : (c.den == d.den) = true) (g5 : (c.ll == d.ll) = true) (g6 : (c.rl == d.rl) = true) (g7 : (c.rh == d.rh) = true) (g8 : (c.lh == d.lh) = false) :
    Calls Tryz.prog 17 #[.agg #[.int .u8 c.tag, .int .i64 c.most, .int .i64 c.seg, .int .i64 c.least, .int .i64 c.den, .int .i64 c.ll, .int .i64 c.rl, .int .i64 c.rh, .int .i64 c.lh, .int .i64 s.seg, .slice wa s.ws.length wc, .slice ka s.ks.length kc, .slice va s.vs.length vc, .slice ca s.cs.length cc, .int .u64 s.laid, .slice ga gs.length gc, .slice pa ps.length pc, .int .u64 mv], .agg #[.int .u8 d.tag, .int .i64 d.most, .int .i64 d.seg, .int .i64 d.least, .int .i64 d.den, .int .i64 d.ll, .int .i64 d.rl, .int .i64 d.rh, .int .i64 d.lh, .int .i64 t.seg, .slice wa' t.ws.length wc', .slice ka' t.ks.length kc', .slice va' t.vs.length vc', .slice ca' t.cs.length cc', .int .u64 t.laid, .slice ga' gs'.length gc', .slice pa' ps'.length pc', .int .u64 mv']] w (AnsB w (.bool false)) := by
  go_enter Tryz.func17, Tryz.ntmps17
  have hB0 : Below w.heap.size w ((w.alloc (.cells #[.int .u8 c.tag, .int .i64 c.most, .int .i64 c.seg, .int .i64 c.least, .int .i64 c.den, .int .i64 c.ll, .int .i64 c.rl, .int .i64 c.rh, .int .i64 c.lh, .int .i64 s.seg, .slice wa s.ws.length wc, .slice ka s.ks.length kc, .slice va s.vs.length vc, .slice ca s.cs.length cc, .int .u64 s.laid, .slice ga gs.length gc, .slice pa ps.length pc, .int .u64 mv] 33)).alloc (.cells #[.int .u8 d.tag, .int .i64 d.most, .int .i64 d.seg, .int .i64 d.least, .int .i64 d.den, .int .i64 d.ll, .int .i64 d.rl, .int .i64 d.rh, .int .i64 d.lh, .int .i64 t.seg, .slice wa' t.ws.length wc', .slice ka' t.ks.length kc', .slice va' t.vs.length vc', .slice ca' t.cs.length cc', .int .u64 t.laid, .slice ga' gs'.length gc', .slice pa' ps'.length pc', .int .u64 mv'] 33)) := by (exact xbel)
  go_wp2
  go_ret
  exact ⟨rfl, hB0⟩
theorem SmOm_p9 (c d : Cfg) (s t : SlC) (wa ka va ca : Option Addr) (wc kc vc cc : Nat) (wa' ka' va' ca' : Option Addr) (wc' kc' vc' cc' : Nat) (gs ps : List Int) (mv : Int) (ga pa : Option Addr) (gc pc : Nat) (gs' ps' : List Int) (mv' : Int) (ga' pa' : Option Addr) (gc' pc' : Nat) (w : World) (g0 : (c.tag == d.tag) = true) (g1 : (c.most == d.most) = true) (g2 : (c.seg == d.seg) = true) (g3 : (c.least == d.least) = true) (g4 : (c.den == d.den) = true) (g5 : (c.ll == d.ll) = true) (g6 : (c.rl == d.rl) = true) (g7 : (c.rh == d.rh) = true) (g8 : (c.lh == d.lh) = true) (gm : (mv == mv') = false) :
    Calls Tryz.prog 17 #[.agg #[.int .u8 c.tag, .int .i64 c.most, .int .i64 c.seg, .int .i64 c.least, .int .i64 c.den, .int .i64 c.ll, .int .i64 c.rl, .int .i64 c.rh, .int .i64 c.lh, .int .i64 s.seg, .slice wa s.ws.length wc, .slice ka s.ks.length kc, .slice va s.vs.length vc, .slice ca s.cs.length cc, .int .u64 s.laid, .slice ga gs.length gc, .slice pa ps.length pc, .int .u64 mv], .agg #[.int .u8 d.tag, .int .i64 d.most, .int .i64 d.seg, .int .i64 d.least, .int .i64 d.den, .int .i64 d.ll, .int .i64 d.rl, .int .i64 d.rh, .int .i64 d.lh, .int .i64 t.seg, .slice wa' t.ws.length wc', .slice ka' t.ks.length kc', .slice va' t.vs.length vc', .slice ca' t.cs.length cc', .int .u64 t.laid, .slice ga' gs'.length gc', .slice pa' ps'.length pc', .int .u64 mv']] w (AnsB w (.bool false)) := by
  go_enter Tryz.func17, Tryz.ntmps17
  have hB0 : Below w.heap.size w ((w.alloc (.cells #[.int .u8 c.tag, .int .i64 c.most, .int .i64 c.seg, .int .i64 c.least, .int .i64 c.den, .int .i64 c.ll, .int .i64 c.rl, .int .i64 c.rh, .int .i64 c.lh, .int .i64 s.seg, .slice wa s.ws.length wc, .slice ka s.ks.length kc, .slice va s.vs.length vc, .slice ca s.cs.length cc, .int .u64 s.laid, .slice ga gs.length gc, .slice pa ps.length pc, .int .u64 mv] 33)).alloc (.cells #[.int .u8 d.tag, .int .i64 d.most, .int .i64 d.seg, .int .i64 d.least, .int .i64 d.den, .int .i64 d.ll, .int .i64 d.rl, .int .i64 d.rh, .int .i64 d.lh, .int .i64 t.seg, .slice wa' t.ws.length wc', .slice ka' t.ks.length kc', .slice va' t.vs.length vc', .slice ca' t.cs.length cc', .int .u64 t.laid, .slice ga' gs'.length gc', .slice pa' ps'.length pc', .int .u64 mv'] 33)) := by (exact xbel)
  go_wp2
  go_ret
  exact ⟨rfl, hB0⟩
theorem SmOm_p10 (c d : Cfg) (s t : SlC) (wa ka va ca : Option Addr) (wc kc vc cc : Nat) (wa' ka' va' ca' : Option Addr) (wc' kc' vc' cc' : Nat) (gs ps : List Int) (mv : Int) (ga pa : Option Addr) (gc pc : Nat) (gs' ps' : List Int) (mv' : Int) (ga' pa' : Option Addr) (gc' pc' : Nat) (w : World) (g0 : (c.tag == d.tag) = true) (g1 : (c.most == d.most) = true) (g2 : (c.seg == d.seg) = true) (g3 : (c.least == d.least) = true) (g4 : (c.den == d.den) = true) (g5 : (c.ll == d.ll) = true) (g6 : (c.rl == d.rl) = true) (g7 : (c.rh == d.rh) = true) (g8 : (c.lh == d.lh) = true) (gm : (mv == mv') = true) (SM : Hid (∀ W, Below w.heap.size w W → Calls Tryz.prog 39 #[.agg #[.int .i64 s.seg, .slice wa s.ws.length wc, .slice ka s.ks.length kc, .slice va s.vs.length vc, .slice ca s.cs.length cc, .int .u64 s.laid], .agg #[.int .i64 t.seg, .slice wa' t.ws.length wc', .slice ka' t.ks.length kc', .slice va' t.vs.length vc', .slice ca' t.cs.length cc', .int .u64 t.laid]] W (AnsB W (.bool false)))) :
    Calls Tryz.prog 17 #[.agg #[.int .u8 c.tag, .int .i64 c.most, .int .i64 c.seg, .int .i64 c.least, .int .i64 c.den, .int .i64 c.ll, .int .i64 c.rl, .int .i64 c.rh, .int .i64 c.lh, .int .i64 s.seg, .slice wa s.ws.length wc, .slice ka s.ks.length kc, .slice va s.vs.length vc, .slice ca s.cs.length cc, .int .u64 s.laid, .slice ga gs.length gc, .slice pa ps.length pc, .int .u64 mv], .agg #[.int .u8 d.tag, .int .i64 d.most, .int .i64 d.seg, .int .i64 d.least, .int .i64 d.den, .int .i64 d.ll, .int .i64 d.rl, .int .i64 d.rh, .int .i64 d.lh, .int .i64 t.seg, .slice wa' t.ws.length wc', .slice ka' t.ks.length kc', .slice va' t.vs.length vc', .slice ca' t.cs.length cc', .int .u64 t.laid, .slice ga' gs'.length gc', .slice pa' ps'.length pc', .int .u64 mv']] w (AnsB w (.bool false)) := by
  go_enter Tryz.func17, Tryz.ntmps17
  go_wp2_with fail
  refine (SM.out _ (by (exact xbel))).mono ?_
  rintro e w1 ⟨rfl, hb1⟩
  have hz_w1 := hb1.size
  try simp only [World.size_alloc, World.size_setCell] at hz_w1
  have hh := bc18 hb1 (au18 (al18 (b := w.heap.size) (by simp)))
  obtain ⟨c_t0, c_t1, c_t2, c_t3, c_t4, c_t5, c_t6, c_t7, c_t8, c_t9, c_t10, c_t11, c_t12, c_t13, c_t14, c_t15, c_t16, c_t17⟩ := hh
  have z_t := blt hb1 (auz (alz (b := w.heap.size) (by simp)))
  have hh := bc18 hb1 (al18 (b := w.heap.size + 1) (by simp))
  obtain ⟨c_o0, c_o1, c_o2, c_o3, c_o4, c_o5, c_o6, c_o7, c_o8, c_o9, c_o10, c_o11, c_o12, c_o13, c_o14, c_o15, c_o16, c_o17⟩ := hh
  have z_o := blt hb1 (alz (b := w.heap.size + 1) (by simp))
  have hB1 : Below w.heap.size w w1 := by (exact xbel)
  have HB1 := Lib.hid hB1
  clear hb1 hB1
  go_wp2
  go_ret
  exact ⟨rfl, HB1.out⟩
theorem SmOm_p11 (c d : Cfg) (s t : SlC) (wa ka va ca : Option Addr) (wc kc vc cc : Nat) (wa' ka' va' ca' : Option Addr) (wc' kc' vc' cc' : Nat) (gs ps : List Int) (mv : Int) (ga pa : Option Addr) (gc pc : Nat) (gs' ps' : List Int) (mv' : Int) (ga' pa' : Option Addr) (gc' pc' : Nat) (w : World) (g0 : (c.tag == d.tag) = true) (g1 : (c.most == d.most) = true) (g2 : (c.seg == d.seg) = true) (g3 : (c.least == d.least) = true) (g4 : (c.den == d.den) = true) (g5 : (c.ll == d.ll) = true) (g6 : (c.rl == d.rl) = true) (g7 : (c.rh == d.rh) = true) (g8 : (c.lh == d.lh) = true) (gm : (mv == mv') = true) (SM : Hid (∀ W, Below w.heap.size w W → Calls Tryz.prog 39 #[.agg #[.int .i64 s.seg, .slice wa s.ws.length wc, .slice ka s.ks.length kc, .slice va s.vs.length vc, .slice ca s.cs.length cc, .int .u64 s.laid], .agg #[.int .i64 t.seg, .slice wa' t.ws.length wc', .slice ka' t.ks.length kc', .slice va' t.vs.length vc', .slice ca' t.cs.length cc', .int .u64 t.laid]] W (AnsB W (.bool true)))) (b : Bool) (HM : Hid (∀ W, Below w.heap.size w W → Calls Tryz.prog 40 #[.agg #[.slice ga gs.length gc, .slice pa ps.length pc], .agg #[.slice ga' gs'.length gc', .slice pa' ps'.length pc']] W (AnsB W (.bool b)))) :
    Calls Tryz.prog 17 #[.agg #[.int .u8 c.tag, .int .i64 c.most, .int .i64 c.seg, .int .i64 c.least, .int .i64 c.den, .int .i64 c.ll, .int .i64 c.rl, .int .i64 c.rh, .int .i64 c.lh, .int .i64 s.seg, .slice wa s.ws.length wc, .slice ka s.ks.length kc, .slice va s.vs.length vc, .slice ca s.cs.length cc, .int .u64 s.laid, .slice ga gs.length gc, .slice pa ps.length pc, .int .u64 mv], .agg #[.int .u8 d.tag, .int .i64 d.most, .int .i64 d.seg, .int .i64 d.least, .int .i64 d.den, .int .i64 d.ll, .int .i64 d.rl, .int .i64 d.rh, .int .i64 d.lh, .int .i64 t.seg, .slice wa' t.ws.length wc', .slice ka' t.ks.length kc', .slice va' t.vs.length vc', .slice ca' t.cs.length cc', .int .u64 t.laid, .slice ga' gs'.length gc', .slice pa' ps'.length pc', .int .u64 mv']] w (AnsB w (.bool b)) := by
  go_enter Tryz.func17, Tryz.ntmps17
  go_wp2_with fail
  refine (SM.out _ (by (exact xbel))).mono ?_
  rintro e w1 ⟨rfl, hb1⟩
  have hz_w1 := hb1.size
  try simp only [World.size_alloc, World.size_setCell] at hz_w1
  have hh := bc18 hb1 (au18 (al18 (b := w.heap.size) (by simp)))
  obtain ⟨c_t0, c_t1, c_t2, c_t3, c_t4, c_t5, c_t6, c_t7, c_t8, c_t9, c_t10, c_t11, c_t12, c_t13, c_t14, c_t15, c_t16, c_t17⟩ := hh
  have z_t := blt hb1 (auz (alz (b := w.heap.size) (by simp)))
  have hh := bc18 hb1 (al18 (b := w.heap.size + 1) (by simp))
  obtain ⟨c_o0, c_o1, c_o2, c_o3, c_o4, c_o5, c_o6, c_o7, c_o8, c_o9, c_o10, c_o11, c_o12, c_o13, c_o14, c_o15, c_o16, c_o17⟩ := hh
  have z_o := blt hb1 (alz (b := w.heap.size + 1) (by simp))
  have hB1 : Below w.heap.size w w1 := by (exact xbel)
  have HB1 := Lib.hid hB1
  clear hb1 hB1
  go_wp2_with fail
  refine (HM.out _ HB1.out).mono ?_
  rintro e w2 ⟨rfl, hb2⟩
  have hz_w2 := hb2.size
  try simp only [World.size_alloc, World.size_setCell] at hz_w2
  have hh := bc18 hb2 ⟨c_t0, c_t1, c_t2, c_t3, c_t4, c_t5, c_t6, c_t7, c_t8, c_t9, c_t10, c_t11, c_t12, c_t13, c_t14, c_t15, c_t16, c_t17⟩
  clear c_t0 c_t1 c_t2 c_t3 c_t4 c_t5 c_t6 c_t7 c_t8 c_t9 c_t10 c_t11 c_t12 c_t13 c_t14 c_t15 c_t16 c_t17
  obtain ⟨c_t0, c_t1, c_t2, c_t3, c_t4, c_t5, c_t6, c_t7, c_t8, c_t9, c_t10, c_t11, c_t12, c_t13, c_t14, c_t15, c_t16, c_t17⟩ := hh
  replace z_t := blt hb2 z_t
  have hh := bc18 hb2 ⟨c_o0, c_o1, c_o2, c_o3, c_o4, c_o5, c_o6, c_o7, c_o8, c_o9, c_o10, c_o11, c_o12, c_o13, c_o14, c_o15, c_o16, c_o17⟩
  clear c_o0 c_o1 c_o2 c_o3 c_o4 c_o5 c_o6 c_o7 c_o8 c_o9 c_o10 c_o11 c_o12 c_o13 c_o14 c_o15 c_o16 c_o17
  obtain ⟨c_o0, c_o1, c_o2, c_o3, c_o4, c_o5, c_o6, c_o7, c_o8, c_o9, c_o10, c_o11, c_o12, c_o13, c_o14, c_o15, c_o16, c_o17⟩ := hh
  replace z_o := blt hb2 z_o
  have HB2 := Lib.hid (below_via hb2 HB1.out HB1.out.size)
  clear hb2
  go_wp2
  go_ret
  exact ⟨rfl, HB2.out⟩
theorem SmOm_ok (c d : Cfg) (s t : SlC) (a a' : SlA) (gs ps : List Int) (mv : Int) (ga pa : Option Addr) (gc pc : Nat) (gs' ps' : List Int) (mv' : Int) (ga' pa' : Option Addr) (gc' pc' : Nat) (w : World) (hin : SlIn w s a) (hin' : SlIn w t a') (hg : IsRow .i64 w ga gs) (hp : IsRow .i64 w pa ps) (hg' : IsRow .i64 w ga' gs') (hp' : IsRow .i64 w pa' ps') (hl1 : s.ws.length ≤ 1000000000) (hl2 : s.ks.length ≤ 1000000000) (hl3 : s.vs.length ≤ 1000000000) (hl4 : s.cs.length ≤ 1000000000) (hl5 : gs.length ≤ 1000000000) (hl6 : ps.length ≤ 1000000000) :
    Calls Tryz.prog 17 #[omV c s a.wa a.ka a.va a.ca a.wc a.kc a.vc a.cc gs ps mv ga pa gc pc, omV d t a'.wa a'.ka a'.va a'.ca a'.wc a'.kc a'.vc a'.cc gs' ps' mv' ga' pa' gc' pc'] w (AnsB w (.bool (omB c s gs ps mv d t gs' ps' mv'))) := by
  unfold omB cfB
  by_cases h0 : c.tag = d.tag
  case neg =>
    have g0 : (c.tag == d.tag) = false := by simpa using h0
    simp only [decide_eq_false h0, Bool.false_and]
    exact SmOm_p0 c d s t a.wa a.ka a.va a.ca a.wc a.kc a.vc a.cc a'.wa a'.ka a'.va a'.ca a'.wc a'.kc a'.vc a'.cc gs ps mv ga pa gc pc gs' ps' mv' ga' pa' gc' pc' w  g0
  have g0 : (c.tag == d.tag) = true := by simpa using h0
  rw [decide_eq_true h0, Bool.true_and]
  by_cases h1 : c.most = d.most
  case neg =>
    have g1 : (c.most == d.most) = false := by simpa using h1
    simp only [decide_eq_false h1, Bool.false_and]
    exact SmOm_p1 c d s t a.wa a.ka a.va a.ca a.wc a.kc a.vc a.cc a'.wa a'.ka a'.va a'.ca a'.wc a'.kc a'.vc a'.cc gs ps mv ga pa gc pc gs' ps' mv' ga' pa' gc' pc' w g0 g1
  have g1 : (c.most == d.most) = true := by simpa using h1
  rw [decide_eq_true h1, Bool.true_and]
  by_cases h2 : c.seg = d.seg
  case neg =>
    have g2 : (c.seg == d.seg) = false := by simpa using h2
    simp only [decide_eq_false h2, Bool.false_and]
    exact SmOm_p2 c d s t a.wa a.ka a.va a.ca a.wc a.kc a.vc a.cc a'.wa a'.ka a'.va a'.ca a'.wc a'.kc a'.vc a'.cc gs ps mv ga pa gc pc gs' ps' mv' ga' pa' gc' pc' w g0 g1 g2
  have g2 : (c.seg == d.seg) = true := by simpa using h2
  rw [decide_eq_true h2, Bool.true_and]
  by_cases h3 : c.least = d.least
  case neg =>
    have g3 : (c.least == d.least) = false := by simpa using h3
    simp only [decide_eq_false h3, Bool.false_and]
    exact SmOm_p3 c d s t a.wa a.ka a.va a.ca a.wc a.kc a.vc a.cc a'.wa a'.ka a'.va a'.ca a'.wc a'.kc a'.vc a'.cc gs ps mv ga pa gc pc gs' ps' mv' ga' pa' gc' pc' w g0 g1 g2 g3
  have g3 : (c.least == d.least) = true := by simpa using h3
  rw [decide_eq_true h3, Bool.true_and]
  by_cases h4 : c.den = d.den
  case neg =>
    have g4 : (c.den == d.den) = false := by simpa using h4
    simp only [decide_eq_false h4, Bool.false_and]
    exact SmOm_p4 c d s t a.wa a.ka a.va a.ca a.wc a.kc a.vc a.cc a'.wa a'.ka a'.va a'.ca a'.wc a'.kc a'.vc a'.cc gs ps mv ga pa gc pc gs' ps' mv' ga' pa' gc' pc' w g0 g1 g2 g3 g4
  have g4 : (c.den == d.den) = true := by simpa using h4
  rw [decide_eq_true h4, Bool.true_and]
  by_cases h5 : c.ll = d.ll
  case neg =>
    have g5 : (c.ll == d.ll) = false := by simpa using h5
    simp only [decide_eq_false h5, Bool.false_and]
    exact SmOm_p5 c d s t a.wa a.ka a.va a.ca a.wc a.kc a.vc a.cc a'.wa a'.ka a'.va a'.ca a'.wc a'.kc a'.vc a'.cc gs ps mv ga pa gc pc gs' ps' mv' ga' pa' gc' pc' w g0 g1 g2 g3 g4 g5
  have g5 : (c.ll == d.ll) = true := by simpa using h5
  rw [decide_eq_true h5, Bool.true_and]
  by_cases h6 : c.rl = d.rl
  case neg =>
    have g6 : (c.rl == d.rl) = false := by simpa using h6
    simp only [decide_eq_false h6, Bool.false_and]
    exact SmOm_p6 c d s t a.wa a.ka a.va a.ca a.wc a.kc a.vc a.cc a'.wa a'.ka a'.va a'.ca a'.wc a'.kc a'.vc a'.cc gs ps mv ga pa gc pc gs' ps' mv' ga' pa' gc' pc' w g0 g1 g2 g3 g4 g5 g6
  have g6 : (c.rl == d.rl) = true := by simpa using h6
  rw [decide_eq_true h6, Bool.true_and]
  by_cases h7 : c.rh = d.rh
  case neg =>
    have g7 : (c.rh == d.rh) = false := by simpa using h7
    simp only [decide_eq_false h7, Bool.false_and]
    exact SmOm_p7 c d s t a.wa a.ka a.va a.ca a.wc a.kc a.vc a.cc a'.wa a'.ka a'.va a'.ca a'.wc a'.kc a'.vc a'.cc gs ps mv ga pa gc pc gs' ps' mv' ga' pa' gc' pc' w g0 g1 g2 g3 g4 g5 g6 g7
  have g7 : (c.rh == d.rh) = true := by simpa using h7
  rw [decide_eq_true h7, Bool.true_and]
  by_cases h8 : c.lh = d.lh
  case neg =>
    have g8 : (c.lh == d.lh) = false := by simpa using h8
    simp only [decide_eq_false h8, Bool.false_and]
    exact SmOm_p8 c d s t a.wa a.ka a.va a.ca a.wc a.kc a.vc a.cc a'.wa a'.ka a'.va a'.ca a'.wc a'.kc a'.vc a'.cc gs ps mv ga pa gc pc gs' ps' mv' ga' pa' gc' pc' w g0 g1 g2 g3 g4 g5 g6 g7 g8
  have g8 : (c.lh == d.lh) = true := by simpa using h8
  rw [decide_eq_true h8, Bool.true_and]
  by_cases hm : mv = mv'
  case neg =>
    have gm : (mv == mv') = false := by simpa using hm
    rw [decide_eq_false hm, Bool.false_and]
    exact SmOm_p9 c d s t a.wa a.ka a.va a.ca a.wc a.kc a.vc a.cc a'.wa a'.ka a'.va a'.ca a'.wc a'.kc a'.vc a'.cc gs ps mv ga pa gc pc gs' ps' mv' ga' pa' gc' pc' w g0 g1 g2 g3 g4 g5 g6 g7 g8 gm
  have gm : (mv == mv') = true := by simpa using hm
  rw [decide_eq_true hm, Bool.true_and]
  have SM := Lib.hid (fun W (hb : Below w.heap.size w W) => SmSl_ok s t a a' W (hin.below hb) (hin'.below hb) hl1 hl2 hl3 hl4)
  cases hs : sameB s t with
  | false => rw [hs] at SM; exact SmOm_p10 c d s t a.wa a.ka a.va a.ca a.wc a.kc a.vc a.cc a'.wa a'.ka a'.va a'.ca a'.wc a'.kc a'.vc a'.cc gs ps mv ga pa gc pc gs' ps' mv' ga' pa' gc' pc' w g0 g1 g2 g3 g4 g5 g6 g7 g8 gm SM
  | true =>
    rw [hs] at SM
    rw [Bool.true_and]
    exact SmOm_p11 c d s t a.wa a.ka a.va a.ca a.wc a.kc a.vc a.cc a'.wa a'.ka a'.va a'.ca a'.wc a'.kc a'.vc a'.cc gs ps mv ga pa gc pc gs' ps' mv' ga' pa' gc' pc' w g0 g1 g2 g3 g4 g5 g6 g7 g8 gm SM _ (Lib.hid fun W hb => SameT_ok ga pa ga' pa' gc pc gc' pc' gs ps gs' ps' W (hg.below hb) (hp.below hb) (hg'.below hb) (hp'.below hb) hl5 hl6)
end Go.Proofs.YtjhpblejlchhjaaGreat
