/- PmaTells, joined. -/
import Derived.Test.YtmnlagmmbfjbeaaGreatDoorPmaTells
import Derived.Test.YtmnlagmmbfjbeaaGreatDoorPmD
import Derived.Test.YtmnlagmmbfjbeaaGreatDoorPmC
namespace Go.Proofs.YtmnlagmmbfjbeaaGreatDoor
open Go.RowKit
set_option linter.unusedVariables false
set_option linter.unusedSimpArgs false

theorem newC_u (c : Cfg) : U64s (newC c).ws := by
  unfold newC
  split
  · rename_i h
    obtain ⟨S, M, h1, h2, h4, h6, hM, hm, pS, pM⟩ := least_nums h
    rw [emptyC_eq h1 h2 h4]
    exact (emptyL_gd h4 h6 hM hm 0).u
  · intro x hx; cases hx
theorem newC_len (c : Cfg) : (newC c).ws.length ≤ 1000000000 ∧ (newC c).ks.length ≤ 1000000000 ∧ (newC c).vs.length ≤ 1000000000 ∧ (newC c).cs.length ≤ 1000000000 := by
  unfold newC
  split
  · rename_i h
    obtain ⟨S, M, h1, h2, h4, h6, hM, hm, pS, pM⟩ := least_nums h
    rw [emptyC_eq h1 h2 h4]
    have g := emptyL_gd h4 h6 hM hm 0
    have h9 : 1 * M ≤ S * M := Nat.mul_le_mul_right _ (by omega)
    rw [g.elw, g.elk, g.elv, g.elc]
    omega
  · exact ⟨Nat.zero_le _, Nat.zero_le _, Nat.zero_le _, Nat.zero_le _⟩
theorem gr4_lens {n lk lv lw lc : Nat} (h : gr4 n lk lv lw lc = false) : lk ≤ n ∧ lv ≤ n ∧ lw ≤ n ∧ lc ≤ n := by
  simp only [gr4, Bool.or_eq_false_iff, decide_eq_false_iff_not] at h
  omega
theorem PmaTells_walk (w : World) (c : Cfg) (s : SlC) (sa : SlA) (hin : SlIn w s sa) (z1 : sa.wa = none → sa.wc = 0) (z2 : sa.ka = none → sa.kc = 0) (z3 : sa.va = none → sa.vc = 0) (z4 : sa.ca = none → sa.cc = 0) (d : Cfg) (t : SlC) (ta : SlA) (hin' : SlIn w t ta) (_ : ta.wa = none → ta.wc = 0) (_ : ta.ka = none → ta.kc = 0) (_ : ta.va = none → ta.vc = 0) (_ : ta.ca = none → ta.cc = 0) (key : Int) (hT : TabAt w) :
    Calls Tryz.prog 3 #[pmV c s sa, pmV d t ta, .int .i64 key] w (AnsB w (.bool true)) := by
  cases h1 : gr4 600 s.ks.length s.vs.length s.ws.length s.cs.length with
  | true => exact PT_g1 c s sa.wa sa.ka sa.va sa.ca sa.wc sa.kc sa.vc sa.cc d t ta.wa ta.ka ta.va ta.ca ta.wc ta.kc ta.vc ta.cc key w h1
  | false =>
    cases h2 : gr4 600 t.ks.length t.vs.length t.ws.length t.cs.length with
    | true => exact PT_g2 c s sa.wa sa.ka sa.va sa.ca sa.wc sa.kc sa.vc sa.cc d t ta.wa ta.ka ta.va ta.ca ta.wc ta.kc ta.vc ta.cc key w h1 h2
    | false =>
      obtain ⟨e1, e2, e3, e4⟩ := gr4_lens h1
      have n := newC_len c
      exact PT_in c s sa.wa sa.ka sa.va sa.ca sa.wc sa.kc sa.vc sa.cc d t ta.wa ta.ka ta.va ta.ca ta.wc ta.kc ta.vc ta.cc key w h1 h2 (newF c) (newC c) (cfE c) (szV c s).1 (szV c s).2 (getPV c s key).1 (getPV c s key).2 (pmE c s) (pmB c s d t) hin.u (newC_u c) (by omega) (by omega) (by omega) (by omega)
        (Lib.hid fun W hb => Twin11_ok c s sa.wa sa.ka sa.va sa.ca sa.wc sa.kc sa.vc sa.cc W (Lib.hid fun W' hb' => Twin04_ok s sa W' ((hin.below hb).below hb') (by omega) (by omega) (by omega) (by omega) z1 z2 z3 z4))
        (Lib.hid fun W a2 hb hi hc => pmaTwin_ok c s a2.wa a2.ka a2.va a2.ca a2.wc a2.kc a2.vc a2.cc W (Lib.hid fun W' hb' => slTwin_ok s a2 W' (hi.below hb') (by omega) (by omega) (by omega) (by omega)))
        (Lib.hid fun W _ => pmaNew_ok c W) (Lib.hid fun W _ => New11_ok c W)
        (Lib.hid fun W a2 hb hi hc => pmaSize_ok c s a2 (by omega) (by omega) hc W hi) (Lib.hid fun W hb => Size11_ok c s sa (by omega) (by omega) W (hin.below hb))
        (Lib.hid fun W a2 hb hi hc => pmaGet_ok c s a2 key (by omega) (by omega) hc W hi (hT.below hb)) (Lib.hid fun W hb => Get11_ok c s sa key (by omega) (by omega) W (hin.below hb))
        (Lib.hid fun W a2 hb hi hc => pmaCheck_ok c s a2 (by omega) (by omega) hc W hi) (Lib.hid fun W hb => Check11_ok c s sa (by omega) (by omega) W (hin.below hb))
        (Lib.hid fun W a2 hb hi => SmPm_ok c d s t a2 ta W hi (hin'.below hb) (by omega) (by omega) (by omega) (by omega)) (Lib.hid fun W hb => Sm11_ok c d s t sa ta W (hin.below hb) (hin'.below hb) (by omega) (by omega) (by omega) (by omega))
        (Lib.hid fun W a2 hb hi => by have := SmPm_ok c c s s a2 sa W hi (hin.below hb) (by omega) (by omega) (by omega) (by omega); rwa [pmB_refl] at this)
        (Lib.hid fun W a2 hb hi => by have := Sm11_ok c c s s a2 sa W hi (hin.below hb) (by omega) (by omega) (by omega) (by omega); rwa [pmB_refl] at this)
        (Lib.hid fun W a2 a3 hb hi hi' => by have := Sm11_ok (newF c) (newF c) (newC c) (newC c) a2 a3 W hi hi' n.1 n.2.1 n.2.2.1 n.2.2.2; rwa [pmB_refl] at this)
end Go.Proofs.YtmnlagmmbfjbeaaGreatDoor
