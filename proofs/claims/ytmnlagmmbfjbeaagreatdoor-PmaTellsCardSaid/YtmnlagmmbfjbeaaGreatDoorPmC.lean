/- Merged: Share, GetPl, PmSz, PmGet, PmJn. -/
import Derived.Test.YtmnlagmmbfjbeaaGreatDoorE4F
import Derived.Test.YtmnlagmmbfjbeaaGreatDoorConfPl
import Derived.Test.YtmnlagmmbfjbeaaGreatDoorFindAll
import Derived.Test.YtmnlagmmbfjbeaaGreatDoorPmA
import Derived.Test.YtmnlagmmbfjbeaaGreatDoorOfMy
import Derived.Test.YtmnlagmmbfjbeaaGreatDoorLdA
namespace Go.Proofs.YtmnlagmmbfjbeaaGreatDoor
set_option linter.unusedVariables false
set_option linter.unusedSimpArgs false
section
open Go.RowKit

theorem cntW_add (ws : List Int) {a b d : Nat} (h1 : a ≤ b) (h2 : b ≤ d) : cntW ws a d = cntW ws a b + cntW ws b d := by
  unfold cntW
  rw [← List.countP_append]
  congr 1
  have e : List.range' a (b - a) ++ List.range' b (d - b) = List.range' a (d - a) := by
    have := List.range'_append (s := a) (m := b - a) (n := d - b) (step := 1)
    rw [show a + 1 * (b - a) = b by omega, show b - a + (d - b) = d - a by omega] at this
    exact this
  rw [e]
/-- the counts of segments tell what the words tell -/
theorem sumC_cnt {c : SlC} {S lw n lc : Nat} (h : SlGd c S lw n lc) (a : Nat) : ∀ d, a + d ≤ lc → sumC c.cs a (a + d) = (cntW c.ws (a * S) ((a + d) * S) : Int)
  | 0, _ => by rw [Nat.add_zero, sumC_nil, cntW_none (Nat.le_refl _)]; rfl
  | d + 1, hd => by
    have ih := sumC_cnt h a d (by omega)
    have e := cntW_add c.ws (a := a * S) (b := (a + d) * S) (d := (a + d + 1) * S) (Nat.mul_le_mul_right _ (by omega)) (Nat.mul_le_mul_right _ (by omega))
    rw [← Nat.add_assoc, sumC_succ c.cs (by omega), ih, h.cnt (a + d) (by omega), e]
    push_cast
    rfl
theorem sumC_cnt2 {c : SlC} {S lw n lc : Nat} (h : SlGd c S lw n lc) {a b : Nat} (hab : a ≤ b) (hb : b ≤ lc) : sumC c.cs a b = (cntW c.ws (a * S) (b * S) : Int) := by
  have := sumC_cnt h a (b - a) (by omega)
  rwa [show a + (b - a) = b by omega] at this
end

section
open Go.RowKit

theorem prs_in {c : SlC} {a b : Nat} {p : Int × Int} : p ∈ prs c a b ↔ ∃ j, (a ≤ j ∧ j < b ∧ bitW c.ws j = true) ∧ (c.ks.getD j 0, c.vs.getD j 0) = p := by
  unfold prs plsW
  rw [List.mem_map]
  constructor
  · rintro ⟨j, hj, rfl⟩
    rw [List.mem_filter, List.mem_range'_1] at hj
    exact ⟨j, ⟨hj.1.1, by omega, hj.2⟩, rfl⟩
  · rintro ⟨j, ⟨h1, h2, h3⟩, rfl⟩
    exact ⟨j, List.mem_filter.2 ⟨List.mem_range'_1.2 ⟨h1, by omega⟩, h3⟩, rfl⟩
/-- the pair of a key -/
def fndL (l : List (Int × Int)) (key : Int) : Option (Int × Int) := l.find? fun p => p.1 == key
/-- where Find finds it -/
theorem find_get {c : SlC} {key : Int} (h : seekE c = 0) :
    (∃ r : Nat, findV c key = ((r : Int), 0) ∧ r < c.ks.length ∧ bitW c.ws r = true ∧ c.ks.getD r 0 = key ∧ fndL (prs c 0 c.ks.length) key = some (key, c.vs.getD r 0)) ∨ (findV c key = (0, 6) ∧ fndL (prs c 0 c.ks.length) key = none) := by
  have hmo := seek_mono h
  have hF := frS_is c.ws c.ks c.ks.length key
  have hnv : nextV c key = if frS c.ws c.ks c.ks.length key = c.ks.length then (0, 6) else ((frS c.ws c.ks c.ks.length key : Int), 0) := by rw [nextV, if_pos h]
  generalize frS c.ws c.ks c.ks.length key = r at *
  have hnone : (∀ j, j < c.ks.length → bitW c.ws j = true → c.ks.getD j 0 ≠ key) → fndL (prs c 0 c.ks.length) key = none := by
    intro hn
    rw [fndL, List.find?_eq_none]
    intro p hp
    obtain ⟨j, ⟨-, h2, h3⟩, rfl⟩ := prs_in.1 hp
    simpa using hn j h2 h3
  by_cases hr : r = c.ks.length
  · right
    rw [if_pos hr] at hnv
    refine ⟨by rw [findV, hnv]; rfl, hnone fun j hj hb => ?_⟩
    have := hF.low j (by omega) hb
    omega
  · rw [if_neg hr] at hnv
    have hrn : r < c.ks.length := by have := hF.le; omega
    obtain ⟨hb, hk⟩ := hF.hit hrn
    by_cases hke : c.ks.getD r 0 = key
    · left
      refine ⟨r, by rw [findV, hnv]; exact (if_pos rfl).trans (if_pos hke), hrn, hb, hke, ?_⟩
      cases hf : fndL (prs c 0 c.ks.length) key with
      | none =>
        rw [fndL, List.find?_eq_none] at hf
        have := hf (c.ks.getD r 0, c.vs.getD r 0) (prs_in.2 ⟨r, ⟨by omega, hrn, hb⟩, rfl⟩)
        exact absurd (beq_iff_eq.2 hke) this
      | some p =>
        have h1 := List.find?_some hf
        obtain ⟨j, ⟨-, h2, h3⟩, rfl⟩ := prs_in.1 (List.mem_of_find?_eq_some hf)
        have hjk : c.ks.getD j 0 = key := by simpa using h1
        have hjr : j = r := by
          rcases Nat.lt_trichotomy j r with q | q | q
          · have := hF.low j q h3; omega
          · exact q
          · have := hmo r j q h2 hb h3; omega
        rw [hjr, hke]
    · right
      refine ⟨by rw [findV, hnv]; exact (if_pos rfl).trans (if_neg hke), hnone fun j hj hbj e => ?_⟩
      rcases Nat.lt_trichotomy j r with q | q | q
      · have := hF.low j q hbj; omega
      · rw [q] at e; exact hke e
      · have := hmo r j q hj hb hbj; omega
end

section
open Go.RowKit

set_option maxRecDepth 100000 in
theorem Pairs11_ok (c : Cfg) (s : SlC) (wa ka va ca : Option Addr) (wc kc vc cc : Nat) (L : List (Int × Int)) (w : World) (OF : Hid (∀ W, Below w.heap.size w W → Calls Tryz.prog 52 #[.agg #[.int .i64 s.seg, .slice wa s.ws.length wc, .slice ka s.ks.length kc, .slice va s.vs.length vc, .slice ca s.cs.length cc, .int .u64 s.laid], .int .i64 0, .int .i64 s.ks.length] W (FreshPr W L))) :
    Calls Tryz.prog 29 #[.agg #[.int .u8 c.tag, .int .i64 c.most, .int .i64 c.seg, .int .i64 c.least, .int .i64 c.den, .int .i64 c.ll, .int .i64 c.rl, .int .i64 c.rh, .int .i64 c.lh, .int .i64 s.seg, .slice wa s.ws.length wc, .slice ka s.ks.length kc, .slice va s.vs.length vc, .slice ca s.cs.length cc, .int .u64 s.laid]] w (FreshPr w L) := by
  go_enter Tryz.func29, Tryz.ntmps29
  go_wp2_with fail
  refine (OF.out _ (by (repeat (first | with_reducible (first | exact Below.refl _ _ | assumption | exact Hid.out (by assumption) | refine Below.alloc ?_ ?_ _ | refine Below.setCell ?_ ?_ _ | refine below_drewN ?_ _ | refine Below.drew ?_ | refine below_via (by assumption) ?_ ?_) | (first | (with_reducible assumption) | omega | (simp only [szW] <;> omega) | (simp <;> omega)))))).mono ?_
  rintro e w1 ⟨v, rfl, ho, hb1⟩
  have hz_w1 := hb1.size
  try simp only [World.size_alloc, World.size_setCell] at hz_w1
  have hh := bc15 hb1 (al15 (b := w.heap.size) (by simp))
  obtain ⟨c_t0, c_t1, c_t2, c_t3, c_t4, c_t5, c_t6, c_t7, c_t8, c_t9, c_t10, c_t11, c_t12, c_t13, c_t14⟩ := hh
  have z_t := blt hb1 (alz (b := w.heap.size) (by simp))
  have hB1 : Below w.heap.size w w1 := by (repeat (first | with_reducible (first | exact Below.refl _ _ | assumption | exact Hid.out (by assumption) | refine Below.alloc ?_ ?_ _ | refine Below.setCell ?_ ?_ _ | refine below_drewN ?_ _ | refine Below.drew ?_ | refine below_via (by assumption) ?_ ?_) | (first | (with_reducible assumption) | omega | (simp only [szW] <;> omega) | (simp <;> omega))))
  have HO := Lib.hid ho
  clear ho
  go_wp2
  go_ret
  exact ⟨_, rfl, owns_base HO.out (by simp), hB1⟩
/-- what Size answers -/
def szV (c : Cfg) (s : SlC) : Int × Int := if pmE c s = 0 then (((prs s 0 s.ks.length).length : Int), 0) else (0, pmE c s)
set_option maxRecDepth 100000 in
theorem Size11_err (c : Cfg) (s : SlC) (wa ka va ca : Option Addr) (wc kc vc cc : Nat) (e : Int) (he : e ≠ 0) (w : World) (CK : Hid (∀ W, Below w.heap.size w W → Calls Tryz.prog 15 #[.agg #[.int .u8 c.tag, .int .i64 c.most, .int .i64 c.seg, .int .i64 c.least, .int .i64 c.den, .int .i64 c.ll, .int .i64 c.rl, .int .i64 c.rh, .int .i64 c.lh, .int .i64 s.seg, .slice wa s.ws.length wc, .slice ka s.ks.length kc, .slice va s.vs.length vc, .slice ca s.cs.length cc, .int .u64 s.laid]] W (AnsB W (.int .i64 e)))) :
    Calls Tryz.prog 11 #[.agg #[.int .u8 c.tag, .int .i64 c.most, .int .i64 c.seg, .int .i64 c.least, .int .i64 c.den, .int .i64 c.ll, .int .i64 c.rl, .int .i64 c.rh, .int .i64 c.lh, .int .i64 s.seg, .slice wa s.ws.length wc, .slice ka s.ks.length kc, .slice va s.vs.length vc, .slice ca s.cs.length cc, .int .u64 s.laid]] w (AnsB w (.tuple #[.int .i64 0, .int .i64 e])) := by
  have ge : (e != 0) = true := by simpa using he
  clear he
  go_enter Tryz.func11, Tryz.ntmps11
  go_wp2_with fail
  refine (CK.out _ (by (repeat (first | with_reducible (first | exact Below.refl _ _ | assumption | exact Hid.out (by assumption) | refine Below.alloc ?_ ?_ _ | refine Below.setCell ?_ ?_ _ | refine below_drewN ?_ _ | refine Below.drew ?_ | refine below_via (by assumption) ?_ ?_) | (first | (with_reducible assumption) | omega | (simp only [szW] <;> omega) | (simp <;> omega)))))).mono ?_
  rintro e w1 ⟨rfl, hb1⟩
  have hz_w1 := hb1.size
  try simp only [World.size_alloc, World.size_setCell] at hz_w1
  have hh := bc15 hb1 (al15 (b := w.heap.size) (by simp))
  obtain ⟨c_t0, c_t1, c_t2, c_t3, c_t4, c_t5, c_t6, c_t7, c_t8, c_t9, c_t10, c_t11, c_t12, c_t13, c_t14⟩ := hh
  have z_t := blt hb1 (alz (b := w.heap.size) (by simp))
  have hB1 : Below w.heap.size w w1 := by (repeat (first | with_reducible (first | exact Below.refl _ _ | assumption | exact Hid.out (by assumption) | refine Below.alloc ?_ ?_ _ | refine Below.setCell ?_ ?_ _ | refine below_drewN ?_ _ | refine Below.drew ?_ | refine below_via (by assumption) ?_ ?_) | (first | (with_reducible assumption) | omega | (simp only [szW] <;> omega) | (simp <;> omega))))
  go_wp2
  go_ret2
  exact ⟨rfl, hB1⟩
set_option maxRecDepth 100000 in
theorem Size11_in (c : Cfg) (s : SlC) (wa ka va ca : Option Addr) (wc kc vc cc : Nat) (L : List (Int × Int)) (w : World) (CK : Hid (∀ W, Below w.heap.size w W → Calls Tryz.prog 15 #[.agg #[.int .u8 c.tag, .int .i64 c.most, .int .i64 c.seg, .int .i64 c.least, .int .i64 c.den, .int .i64 c.ll, .int .i64 c.rl, .int .i64 c.rh, .int .i64 c.lh, .int .i64 s.seg, .slice wa s.ws.length wc, .slice ka s.ks.length kc, .slice va s.vs.length vc, .slice ca s.cs.length cc, .int .u64 s.laid]] W (AnsB W (.int .i64 0)))) (PR : Hid (∀ W, Below w.heap.size w W → Calls Tryz.prog 29 #[.agg #[.int .u8 c.tag, .int .i64 c.most, .int .i64 c.seg, .int .i64 c.least, .int .i64 c.den, .int .i64 c.ll, .int .i64 c.rl, .int .i64 c.rh, .int .i64 c.lh, .int .i64 s.seg, .slice wa s.ws.length wc, .slice ka s.ks.length kc, .slice va s.vs.length vc, .slice ca s.cs.length cc, .int .u64 s.laid]] W (FreshPr W L))) :
    Calls Tryz.prog 11 #[.agg #[.int .u8 c.tag, .int .i64 c.most, .int .i64 c.seg, .int .i64 c.least, .int .i64 c.den, .int .i64 c.ll, .int .i64 c.rl, .int .i64 c.rh, .int .i64 c.lh, .int .i64 s.seg, .slice wa s.ws.length wc, .slice ka s.ks.length kc, .slice va s.vs.length vc, .slice ca s.cs.length cc, .int .u64 s.laid]] w (AnsB w (.tuple #[.int .i64 L.length, .int .i64 0])) := by
  go_enter Tryz.func11, Tryz.ntmps11
  go_wp2_with fail
  refine (CK.out _ (by (repeat (first | with_reducible (first | exact Below.refl _ _ | assumption | exact Hid.out (by assumption) | refine Below.alloc ?_ ?_ _ | refine Below.setCell ?_ ?_ _ | refine below_drewN ?_ _ | refine Below.drew ?_ | refine below_via (by assumption) ?_ ?_) | (first | (with_reducible assumption) | omega | (simp only [szW] <;> omega) | (simp <;> omega)))))).mono ?_
  rintro e w1 ⟨rfl, hb1⟩
  have hz_w1 := hb1.size
  try simp only [World.size_alloc, World.size_setCell] at hz_w1
  have hh := bc15 hb1 (al15 (b := w.heap.size) (by simp))
  obtain ⟨c_t0, c_t1, c_t2, c_t3, c_t4, c_t5, c_t6, c_t7, c_t8, c_t9, c_t10, c_t11, c_t12, c_t13, c_t14⟩ := hh
  have z_t := blt hb1 (alz (b := w.heap.size) (by simp))
  have hB1 : Below w.heap.size w w1 := by (repeat (first | with_reducible (first | exact Below.refl _ _ | assumption | exact Hid.out (by assumption) | refine Below.alloc ?_ ?_ _ | refine Below.setCell ?_ ?_ _ | refine below_drewN ?_ _ | refine Below.drew ?_ | refine below_via (by assumption) ?_ ?_) | (first | (with_reducible assumption) | omega | (simp only [szW] <;> omega) | (simp <;> omega))))
  go_wp2_with fail
  refine (PR.out _ hB1).mono ?_
  rintro e w2 ⟨v, rfl, ho, hb2⟩
  have hz_w2 := hb2.size
  try simp only [World.size_alloc, World.size_setCell] at hz_w2
  have hh := bc15 hb2 ⟨c_t0, c_t1, c_t2, c_t3, c_t4, c_t5, c_t6, c_t7, c_t8, c_t9, c_t10, c_t11, c_t12, c_t13, c_t14⟩
  clear c_t0 c_t1 c_t2 c_t3 c_t4 c_t5 c_t6 c_t7 c_t8 c_t9 c_t10 c_t11 c_t12 c_t13 c_t14
  obtain ⟨c_t0, c_t1, c_t2, c_t3, c_t4, c_t5, c_t6, c_t7, c_t8, c_t9, c_t10, c_t11, c_t12, c_t13, c_t14⟩ := hh
  replace z_t := blt hb2 z_t
  have hB2 := below_via hb2 hB1 hB1.size
  obtain ⟨a, cp, rfl, -⟩ := owns_news ho
  clear ho
  go_wp2
  go_ret2
  exact ⟨rfl, hB2⟩
set_option maxRecDepth 100000 in
theorem pmaSize_err (c : Cfg) (s : SlC) (wa ka va ca : Option Addr) (wc kc vc cc : Nat) (e : Int) (he : e ≠ 0) (w : World) (CK : Hid (∀ W, Below w.heap.size w W → Calls Tryz.prog 14 #[.agg #[.int .u8 c.tag, .int .i64 c.most, .int .i64 c.seg, .int .i64 c.least, .int .i64 c.den, .int .i64 c.ll, .int .i64 c.rl, .int .i64 c.rh, .int .i64 c.lh, .int .i64 s.seg, .slice wa s.ws.length wc, .slice ka s.ks.length kc, .slice va s.vs.length vc, .slice ca s.cs.length cc, .int .u64 s.laid]] W (AnsB W (.int .i64 e)))) :
    Calls Tryz.prog 10 #[.agg #[.int .u8 c.tag, .int .i64 c.most, .int .i64 c.seg, .int .i64 c.least, .int .i64 c.den, .int .i64 c.ll, .int .i64 c.rl, .int .i64 c.rh, .int .i64 c.lh, .int .i64 s.seg, .slice wa s.ws.length wc, .slice ka s.ks.length kc, .slice va s.vs.length vc, .slice ca s.cs.length cc, .int .u64 s.laid]] w (AnsB w (.tuple #[.int .i64 0, .int .i64 e])) := by
  have ge : (e != 0) = true := by simpa using he
  clear he
  go_enter Tryz.func10, Tryz.ntmps10
  go_wp2_with fail
  refine (CK.out _ (by (repeat (first | with_reducible (first | exact Below.refl _ _ | assumption | exact Hid.out (by assumption) | refine Below.alloc ?_ ?_ _ | refine Below.setCell ?_ ?_ _ | refine below_drewN ?_ _ | refine Below.drew ?_ | refine below_via (by assumption) ?_ ?_) | (first | (with_reducible assumption) | omega | (simp only [szW] <;> omega) | (simp <;> omega)))))).mono ?_
  rintro e w1 ⟨rfl, hb1⟩
  have hz_w1 := hb1.size
  try simp only [World.size_alloc, World.size_setCell] at hz_w1
  have hh := bc15 hb1 (al15 (b := w.heap.size) (by simp))
  obtain ⟨c_t0, c_t1, c_t2, c_t3, c_t4, c_t5, c_t6, c_t7, c_t8, c_t9, c_t10, c_t11, c_t12, c_t13, c_t14⟩ := hh
  have z_t := blt hb1 (alz (b := w.heap.size) (by simp))
  have hB1 : Below w.heap.size w w1 := by (repeat (first | with_reducible (first | exact Below.refl _ _ | assumption | exact Hid.out (by assumption) | refine Below.alloc ?_ ?_ _ | refine Below.setCell ?_ ?_ _ | refine below_drewN ?_ _ | refine Below.drew ?_ | refine below_via (by assumption) ?_ ?_) | (first | (with_reducible assumption) | omega | (simp only [szW] <;> omega) | (simp <;> omega))))
  go_wp2
  go_ret2
  exact ⟨rfl, hB1⟩
set_option maxRecDepth 100000 in
set_option maxHeartbeats 1000000 in
theorem pmaSize_in (c : Cfg) (s : SlC) (wa ka va ca : Option Addr) (wc kc vc cc : Nat) (S : Nat) (hS : S ≤ 64) (hC : CntB s.cs S) (hlc : s.cs.length ≤ 65536) (w : World) (hcs : IsRow .i64 w ca s.cs) (CK : Hid (∀ W, Below w.heap.size w W → Calls Tryz.prog 14 #[.agg #[.int .u8 c.tag, .int .i64 c.most, .int .i64 c.seg, .int .i64 c.least, .int .i64 c.den, .int .i64 c.ll, .int .i64 c.rl, .int .i64 c.rh, .int .i64 c.lh, .int .i64 s.seg, .slice wa s.ws.length wc, .slice ka s.ks.length kc, .slice va s.vs.length vc, .slice ca s.cs.length cc, .int .u64 s.laid]] W (AnsB W (.int .i64 0)))) :
    Calls Tryz.prog 10 #[.agg #[.int .u8 c.tag, .int .i64 c.most, .int .i64 c.seg, .int .i64 c.least, .int .i64 c.den, .int .i64 c.ll, .int .i64 c.rl, .int .i64 c.rh, .int .i64 c.lh, .int .i64 s.seg, .slice wa s.ws.length wc, .slice ka s.ks.length kc, .slice va s.vs.length vc, .slice ca s.cs.length cc, .int .u64 s.laid]] w (AnsB w (.tuple #[.int .i64 (sumC s.cs 0 s.cs.length), .int .i64 0])) := by
  have HR := Lib.hid hcs
  have HC := Lib.hid hC
  obtain ⟨m, hm⟩ : ∃ m, s.cs.length = m := ⟨_, rfl⟩
  have HM := Lib.hid hm
  clear hcs hC
  rw [hm] at CK hlc ⊢
  clear hm
  go_enter Tryz.func10, Tryz.ntmps10
  go_wp2_with fail
  refine (CK.out _ (by (repeat (first | with_reducible (first | exact Below.refl _ _ | assumption | exact Hid.out (by assumption) | refine Below.alloc ?_ ?_ _ | refine Below.setCell ?_ ?_ _ | refine below_drewN ?_ _ | refine Below.drew ?_ | refine below_via (by assumption) ?_ ?_) | (first | (with_reducible assumption) | omega | (simp only [szW] <;> omega) | (simp <;> omega)))))).mono ?_
  rintro e w1 ⟨rfl, hb1⟩
  have hz_w1 := hb1.size
  try simp only [World.size_alloc, World.size_setCell] at hz_w1
  have hh := bc15 hb1 (al15 (b := w.heap.size) (by simp))
  obtain ⟨c_t0, c_t1, c_t2, c_t3, c_t4, c_t5, c_t6, c_t7, c_t8, c_t9, c_t10, c_t11, c_t12, c_t13, c_t14⟩ := hh
  have z_t := blt hb1 (alz (b := w.heap.size) (by simp))
  have hB1 : Below w.heap.size w w1 := by (repeat (first | with_reducible (first | exact Below.refl _ _ | assumption | exact Hid.out (by assumption) | refine Below.alloc ?_ ?_ _ | refine Below.setCell ?_ ?_ _ | refine below_drewN ?_ _ | refine Below.drew ?_ | refine below_via (by assumption) ?_ ?_) | (first | (with_reducible assumption) | omega | (simp only [szW] <;> omega) | (simp <;> omega))))
  have HB1 := Lib.hid hB1
  have HR1 := Lib.hid (HR.out.below hB1)
  clear hB1 hb1
  go_wp2
  go_loopg [2, 6, 16] m (fun gk sv x iv wr => ∃ i : Nat, i + gk = m ∧ iv = .int .i64 i ∧ sv = .int .i64 (sumC s.cs 0 i) ∧ w1 = wr)
  case atStart => exact ⟨0, by omega, rfl, by rw [sumC_nil], rfl⟩
  case round =>
    obtain ⟨i, hi2, rfl, rfl, rfl⟩ := hrel
    by_cases hlt : i < m
    · obtain ⟨b, off, x, hbe, hxx, hc, -⟩ := HR1.out.get (i := i) (by rw [HM.out]; exact hlt)
      subst hbe
      have hsb := sumC_bd HC.out 0 i
      have hx2 := HC.out i
      have hsu := sumC_succ s.cs (a := 0) (b := i) (by omega)
      rw [Nat.zero_add] at hsb
      rw [hxx.out] at hsu hx2
      have hsn : S * i ≤ 64 * 65536 := Nat.mul_le_mul hS (by omega)
      generalize sumC s.cs 0 i = s0 at *
      have hw1 : IntKind.i64.wrap (s0 + x) = s0 + x := IntWalk.i64_in _ (by omega)
      have HSU := Lib.hid hsu
      clear hxx hsu hx2 hsb
      go_wp2
      go_roundg (gk - 1)
      case measure => omega
      case rel => exact ⟨i + 1, by omega, by go_num, by rw [HSU.out], rfl⟩
    · have him : i = m := by omega
      subst him
      go_wp2
      go_ret2
      exact ⟨rfl, HB1.out⟩
end

section
open Go.RowKit

theorem fndL_at {key : Int} : ∀ (L : List (Int × Int)) (k : Nat), k < L.length → (∀ j, j < k → (L.getD j (0, 0)).1 ≠ key) → (L.getD k (0, 0)).1 = key → fndL L key = some (L.getD k (0, 0))
  | [], k, h, _, _ => by simp at h
  | x :: l, 0, _, _, h => by
    rw [List.getD_cons_zero] at h ⊢
    exact List.find?_cons_of_pos (p := fun p : Int × Int => p.1 == key) (beq_iff_eq.2 h)
  | x :: l, k + 1, hk, hj, h => by
    rw [List.getD_cons_succ] at h ⊢
    have h0 := hj 0 (by omega)
    rw [List.getD_cons_zero] at h0
    rw [fndL, List.find?_cons_of_neg (by simpa using h0)]
    exact fndL_at l k (by simpa using hk) (fun j hjk => by have := hj (j + 1) (by omega); rwa [List.getD_cons_succ] at this) h
theorem fndL_no {key : Int} : ∀ (L : List (Int × Int)), (∀ j, j < L.length → (L.getD j (0, 0)).1 ≠ key) → fndL L key = none
  | [], _ => rfl
  | x :: l, hj => by
    have h0 := hj 0 (by simp)
    rw [List.getD_cons_zero] at h0
    rw [fndL, List.find?_cons_of_neg (by simpa using h0)]
    exact fndL_no l fun j hjl => by have := hj (j + 1) (by simpa using hjl); rwa [List.getD_cons_succ] at this
/-- what Value answers -/
def valV (L : List (Int × Int)) (key : Int) : Int × Bool := match fndL L key with
  | some p => (p.2, true)
  | none => (0, false)
set_option maxRecDepth 100000 in
set_option maxHeartbeats 1000000 in
theorem Value11_ok (c : Cfg) (s : SlC) (wa ka va ca : Option Addr) (wc kc vc cc : Nat) (L : List (Int × Int)) (key : Int) (hL : L.length ≤ 100000) (w : World) (PR : Hid (∀ W, Below w.heap.size w W → Calls Tryz.prog 29 #[.agg #[.int .u8 c.tag, .int .i64 c.most, .int .i64 c.seg, .int .i64 c.least, .int .i64 c.den, .int .i64 c.ll, .int .i64 c.rl, .int .i64 c.rh, .int .i64 c.lh, .int .i64 s.seg, .slice wa s.ws.length wc, .slice ka s.ks.length kc, .slice va s.vs.length vc, .slice ca s.cs.length cc, .int .u64 s.laid]] W (FreshPr W L))) :
    Calls Tryz.prog 31 #[.agg #[.int .u8 c.tag, .int .i64 c.most, .int .i64 c.seg, .int .i64 c.least, .int .i64 c.den, .int .i64 c.ll, .int .i64 c.rl, .int .i64 c.rh, .int .i64 c.lh, .int .i64 s.seg, .slice wa s.ws.length wc, .slice ka s.ks.length kc, .slice va s.vs.length vc, .slice ca s.cs.length cc, .int .u64 s.laid], .int .i64 key] w (AnsB w (.tuple #[.int .i64 (valV L key).1, .bool (valV L key).2])) := by
  go_enter Tryz.func31, Tryz.ntmps31
  go_wp2_with fail
  refine (PR.out _ (by (repeat (first | with_reducible (first | exact Below.refl _ _ | assumption | exact Hid.out (by assumption) | refine Below.alloc ?_ ?_ _ | refine Below.setCell ?_ ?_ _ | refine below_drewN ?_ _ | refine Below.drew ?_ | refine below_via (by assumption) ?_ ?_) | (first | (with_reducible assumption) | omega | (simp only [szW] <;> omega) | (simp <;> omega)))))).mono ?_
  rintro e w1 ⟨v, rfl, ho, hb1⟩
  have hz_w1 := hb1.size
  try simp only [World.size_alloc, World.size_setCell] at hz_w1
  have hh := bc15 hb1 (al15 (b := w.heap.size) (by simp))
  obtain ⟨c_t0, c_t1, c_t2, c_t3, c_t4, c_t5, c_t6, c_t7, c_t8, c_t9, c_t10, c_t11, c_t12, c_t13, c_t14⟩ := hh
  have z_t := blt hb1 (alz (b := w.heap.size) (by simp))
  have hB1 : Below w.heap.size w w1 := by (repeat (first | with_reducible (first | exact Below.refl _ _ | assumption | exact Hid.out (by assumption) | refine Below.alloc ?_ ?_ _ | refine Below.setCell ?_ ?_ _ | refine below_drewN ?_ _ | refine Below.drew ?_ | refine below_via (by assumption) ?_ ?_) | (first | (with_reducible assumption) | omega | (simp only [szW] <;> omega) | (simp <;> omega))))
  have HB1 := Lib.hid hB1
  obtain ⟨la, pl, rfl, hla, -⟩ := row_of_owns ho
  have HR := Lib.hid hla
  clear hB1 hb1 ho hla
  go_wp2
  go_loopg [7] L.length (fun g i wr => ∃ k : Nat, k + g = L.length ∧ i = .int .i64 k ∧ w1 = wr ∧ ∀ j, j < k → (L.getD j (0, 0)).1 ≠ key)
  case atStart => exact ⟨0, by omega, rfl, rfl, fun j hj => absurd hj (Nat.not_lt_zero _)⟩
  case round =>
    obtain ⟨k, hk, rfl, rfl, ht⟩ := hrel
    have HT := Lib.hid ht
    clear ht
    by_cases hlt : k < L.length
    · obtain ⟨b1, o1, rfl, c0, c1, z1⟩ := pr_get HR.out hlt
      by_cases hkey : (L.getD k (0, 0)).1 = key
      · have HV : Hid (valV L key = ((L.getD k (0, 0)).2, true)) := Lib.hid (by rw [valV, fndL_at L k hlt HT.out hkey])
        have he : ((L.getD k (0, 0)).1 == key) = true := by simpa using hkey
        clear hkey
        generalize (L.getD k (0, 0)).1 = x1 at *
        generalize (L.getD k (0, 0)).2 = x2 at *
        go_wp2
        go_ret2
        exact ⟨by rw [HV.out]; rfl, HB1.out⟩
      · have HN : Hid (∀ j, j < k + 1 → (L.getD j (0, 0)).1 ≠ key) := Lib.hid fun j hj => by
          rcases Nat.lt_or_ge j k with q | q
          · exact HT.out j q
          · rw [show j = k by omega]; exact hkey
        have he : ((L.getD k (0, 0)).1 == key) = false := by simpa using hkey
        clear hkey
        generalize (L.getD k (0, 0)).1 = x1 at *
        generalize (L.getD k (0, 0)).2 = x2 at *
        go_wp2
        go_roundg (gk - 1)
        case measure => omega
        case rel => exact ⟨k + 1, by omega, by go_num, rfl, HN.out⟩
    · have hkn : k = L.length := by omega
      have HV : Hid (valV L key = (0, false)) := Lib.hid (by rw [valV, fndL_no L (by rw [← hkn]; exact HT.out)])
      go_wp2
      go_ret2
      exact ⟨by rw [HV.out]; rfl, HB1.out⟩
/-- what Get answers -/
def getPV (c : Cfg) (s : SlC) (key : Int) : Int × Int := if pmE c s = 0 then (match fndL (prs s 0 s.ks.length) key with | some p => (p.2, 0) | none => (0, 6)) else (0, pmE c s)
set_option maxRecDepth 100000 in
theorem Get11_err (c : Cfg) (s : SlC) (wa ka va ca : Option Addr) (wc kc vc cc : Nat) (key e : Int) (he : e ≠ 0) (w : World) (CK : Hid (∀ W, Below w.heap.size w W → Calls Tryz.prog 15 #[.agg #[.int .u8 c.tag, .int .i64 c.most, .int .i64 c.seg, .int .i64 c.least, .int .i64 c.den, .int .i64 c.ll, .int .i64 c.rl, .int .i64 c.rh, .int .i64 c.lh, .int .i64 s.seg, .slice wa s.ws.length wc, .slice ka s.ks.length kc, .slice va s.vs.length vc, .slice ca s.cs.length cc, .int .u64 s.laid]] W (AnsB W (.int .i64 e)))) :
    Calls Tryz.prog 13 #[.agg #[.int .u8 c.tag, .int .i64 c.most, .int .i64 c.seg, .int .i64 c.least, .int .i64 c.den, .int .i64 c.ll, .int .i64 c.rl, .int .i64 c.rh, .int .i64 c.lh, .int .i64 s.seg, .slice wa s.ws.length wc, .slice ka s.ks.length kc, .slice va s.vs.length vc, .slice ca s.cs.length cc, .int .u64 s.laid], .int .i64 key] w (AnsB w (.tuple #[.int .i64 0, .int .i64 e])) := by
  have ge : (e != 0) = true := by simpa using he
  clear he
  go_enter Tryz.func13, Tryz.ntmps13
  go_wp2_with fail
  refine (CK.out _ (by (repeat (first | with_reducible (first | exact Below.refl _ _ | assumption | exact Hid.out (by assumption) | refine Below.alloc ?_ ?_ _ | refine Below.setCell ?_ ?_ _ | refine below_drewN ?_ _ | refine Below.drew ?_ | refine below_via (by assumption) ?_ ?_) | (first | (with_reducible assumption) | omega | (simp only [szW] <;> omega) | (simp <;> omega)))))).mono ?_
  rintro e w1 ⟨rfl, hb1⟩
  have hz_w1 := hb1.size
  try simp only [World.size_alloc, World.size_setCell] at hz_w1
  have hh := bc15 hb1 (al15 (b := w.heap.size) (by simp))
  obtain ⟨c_t0, c_t1, c_t2, c_t3, c_t4, c_t5, c_t6, c_t7, c_t8, c_t9, c_t10, c_t11, c_t12, c_t13, c_t14⟩ := hh
  have z_t := blt hb1 (alz (b := w.heap.size) (by simp))
  have hB1 : Below w.heap.size w w1 := by (repeat (first | with_reducible (first | exact Below.refl _ _ | assumption | exact Hid.out (by assumption) | refine Below.alloc ?_ ?_ _ | refine Below.setCell ?_ ?_ _ | refine below_drewN ?_ _ | refine Below.drew ?_ | refine below_via (by assumption) ?_ ?_) | (first | (with_reducible assumption) | omega | (simp only [szW] <;> omega) | (simp <;> omega))))
  go_wp2
  go_ret2
  exact ⟨rfl, hB1⟩
set_option maxRecDepth 100000 in
theorem pmaGet_err (c : Cfg) (s : SlC) (wa ka va ca : Option Addr) (wc kc vc cc : Nat) (key e : Int) (he : e ≠ 0) (w : World) (CK : Hid (∀ W, Below w.heap.size w W → Calls Tryz.prog 14 #[.agg #[.int .u8 c.tag, .int .i64 c.most, .int .i64 c.seg, .int .i64 c.least, .int .i64 c.den, .int .i64 c.ll, .int .i64 c.rl, .int .i64 c.rh, .int .i64 c.lh, .int .i64 s.seg, .slice wa s.ws.length wc, .slice ka s.ks.length kc, .slice va s.vs.length vc, .slice ca s.cs.length cc, .int .u64 s.laid]] W (AnsB W (.int .i64 e)))) :
    Calls Tryz.prog 12 #[.agg #[.int .u8 c.tag, .int .i64 c.most, .int .i64 c.seg, .int .i64 c.least, .int .i64 c.den, .int .i64 c.ll, .int .i64 c.rl, .int .i64 c.rh, .int .i64 c.lh, .int .i64 s.seg, .slice wa s.ws.length wc, .slice ka s.ks.length kc, .slice va s.vs.length vc, .slice ca s.cs.length cc, .int .u64 s.laid], .int .i64 key] w (AnsB w (.tuple #[.int .i64 0, .int .i64 e])) := by
  have ge : (e != 0) = true := by simpa using he
  clear he
  go_enter Tryz.func12, Tryz.ntmps12
  go_wp2_with fail
  refine (CK.out _ (by (repeat (first | with_reducible (first | exact Below.refl _ _ | assumption | exact Hid.out (by assumption) | refine Below.alloc ?_ ?_ _ | refine Below.setCell ?_ ?_ _ | refine below_drewN ?_ _ | refine Below.drew ?_ | refine below_via (by assumption) ?_ ?_) | (first | (with_reducible assumption) | omega | (simp only [szW] <;> omega) | (simp <;> omega)))))).mono ?_
  rintro e w1 ⟨rfl, hb1⟩
  have hz_w1 := hb1.size
  try simp only [World.size_alloc, World.size_setCell] at hz_w1
  have hh := bc15 hb1 (al15 (b := w.heap.size) (by simp))
  obtain ⟨c_t0, c_t1, c_t2, c_t3, c_t4, c_t5, c_t6, c_t7, c_t8, c_t9, c_t10, c_t11, c_t12, c_t13, c_t14⟩ := hh
  have z_t := blt hb1 (alz (b := w.heap.size) (by simp))
  have hB1 : Below w.heap.size w w1 := by (repeat (first | with_reducible (first | exact Below.refl _ _ | assumption | exact Hid.out (by assumption) | refine Below.alloc ?_ ?_ _ | refine Below.setCell ?_ ?_ _ | refine below_drewN ?_ _ | refine Below.drew ?_ | refine below_via (by assumption) ?_ ?_) | (first | (with_reducible assumption) | omega | (simp only [szW] <;> omega) | (simp <;> omega))))
  go_wp2
  go_ret2
  exact ⟨rfl, hB1⟩
set_option maxRecDepth 100000 in
theorem Get11_true (c : Cfg) (s : SlC) (wa ka va ca : Option Addr) (wc kc vc cc : Nat) (key v : Int) (w : World) (CK : Hid (∀ W, Below w.heap.size w W → Calls Tryz.prog 15 #[.agg #[.int .u8 c.tag, .int .i64 c.most, .int .i64 c.seg, .int .i64 c.least, .int .i64 c.den, .int .i64 c.ll, .int .i64 c.rl, .int .i64 c.rh, .int .i64 c.lh, .int .i64 s.seg, .slice wa s.ws.length wc, .slice ka s.ks.length kc, .slice va s.vs.length vc, .slice ca s.cs.length cc, .int .u64 s.laid]] W (AnsB W (.int .i64 0)))) (VL : Hid (∀ W, Below w.heap.size w W → Calls Tryz.prog 31 #[.agg #[.int .u8 c.tag, .int .i64 c.most, .int .i64 c.seg, .int .i64 c.least, .int .i64 c.den, .int .i64 c.ll, .int .i64 c.rl, .int .i64 c.rh, .int .i64 c.lh, .int .i64 s.seg, .slice wa s.ws.length wc, .slice ka s.ks.length kc, .slice va s.vs.length vc, .slice ca s.cs.length cc, .int .u64 s.laid], .int .i64 key] W (AnsB W (.tuple #[.int .i64 v, .bool true])))) :
    Calls Tryz.prog 13 #[.agg #[.int .u8 c.tag, .int .i64 c.most, .int .i64 c.seg, .int .i64 c.least, .int .i64 c.den, .int .i64 c.ll, .int .i64 c.rl, .int .i64 c.rh, .int .i64 c.lh, .int .i64 s.seg, .slice wa s.ws.length wc, .slice ka s.ks.length kc, .slice va s.vs.length vc, .slice ca s.cs.length cc, .int .u64 s.laid], .int .i64 key] w (AnsB w (.tuple #[.int .i64 v, .int .i64 0])) := by
  go_enter Tryz.func13, Tryz.ntmps13
  go_wp2_with fail
  refine (CK.out _ (by (repeat (first | with_reducible (first | exact Below.refl _ _ | assumption | exact Hid.out (by assumption) | refine Below.alloc ?_ ?_ _ | refine Below.setCell ?_ ?_ _ | refine below_drewN ?_ _ | refine Below.drew ?_ | refine below_via (by assumption) ?_ ?_) | (first | (with_reducible assumption) | omega | (simp only [szW] <;> omega) | (simp <;> omega)))))).mono ?_
  rintro e w1 ⟨rfl, hb1⟩
  have hz_w1 := hb1.size
  try simp only [World.size_alloc, World.size_setCell] at hz_w1
  have hh := bc15 hb1 (al15 (b := w.heap.size) (by simp))
  obtain ⟨c_t0, c_t1, c_t2, c_t3, c_t4, c_t5, c_t6, c_t7, c_t8, c_t9, c_t10, c_t11, c_t12, c_t13, c_t14⟩ := hh
  have z_t := blt hb1 (alz (b := w.heap.size) (by simp))
  have hB1 : Below w.heap.size w w1 := by (repeat (first | with_reducible (first | exact Below.refl _ _ | assumption | exact Hid.out (by assumption) | refine Below.alloc ?_ ?_ _ | refine Below.setCell ?_ ?_ _ | refine below_drewN ?_ _ | refine Below.drew ?_ | refine below_via (by assumption) ?_ ?_) | (first | (with_reducible assumption) | omega | (simp only [szW] <;> omega) | (simp <;> omega))))
  go_wp2_with fail
  refine (VL.out _ hB1).mono ?_
  rintro e w2 ⟨rfl, hb2⟩
  have hz_w2 := hb2.size
  try simp only [World.size_alloc, World.size_setCell] at hz_w2
  have hh := bc15 hb2 ⟨c_t0, c_t1, c_t2, c_t3, c_t4, c_t5, c_t6, c_t7, c_t8, c_t9, c_t10, c_t11, c_t12, c_t13, c_t14⟩
  clear c_t0 c_t1 c_t2 c_t3 c_t4 c_t5 c_t6 c_t7 c_t8 c_t9 c_t10 c_t11 c_t12 c_t13 c_t14
  obtain ⟨c_t0, c_t1, c_t2, c_t3, c_t4, c_t5, c_t6, c_t7, c_t8, c_t9, c_t10, c_t11, c_t12, c_t13, c_t14⟩ := hh
  replace z_t := blt hb2 z_t
  have hB2 := below_via hb2 hB1 hB1.size
  go_wp2
  go_ret2
  exact ⟨rfl, hB2⟩
set_option maxRecDepth 100000 in
theorem Get11_false (c : Cfg) (s : SlC) (wa ka va ca : Option Addr) (wc kc vc cc : Nat) (key v : Int) (w : World) (CK : Hid (∀ W, Below w.heap.size w W → Calls Tryz.prog 15 #[.agg #[.int .u8 c.tag, .int .i64 c.most, .int .i64 c.seg, .int .i64 c.least, .int .i64 c.den, .int .i64 c.ll, .int .i64 c.rl, .int .i64 c.rh, .int .i64 c.lh, .int .i64 s.seg, .slice wa s.ws.length wc, .slice ka s.ks.length kc, .slice va s.vs.length vc, .slice ca s.cs.length cc, .int .u64 s.laid]] W (AnsB W (.int .i64 0)))) (VL : Hid (∀ W, Below w.heap.size w W → Calls Tryz.prog 31 #[.agg #[.int .u8 c.tag, .int .i64 c.most, .int .i64 c.seg, .int .i64 c.least, .int .i64 c.den, .int .i64 c.ll, .int .i64 c.rl, .int .i64 c.rh, .int .i64 c.lh, .int .i64 s.seg, .slice wa s.ws.length wc, .slice ka s.ks.length kc, .slice va s.vs.length vc, .slice ca s.cs.length cc, .int .u64 s.laid], .int .i64 key] W (AnsB W (.tuple #[.int .i64 v, .bool false])))) :
    Calls Tryz.prog 13 #[.agg #[.int .u8 c.tag, .int .i64 c.most, .int .i64 c.seg, .int .i64 c.least, .int .i64 c.den, .int .i64 c.ll, .int .i64 c.rl, .int .i64 c.rh, .int .i64 c.lh, .int .i64 s.seg, .slice wa s.ws.length wc, .slice ka s.ks.length kc, .slice va s.vs.length vc, .slice ca s.cs.length cc, .int .u64 s.laid], .int .i64 key] w (AnsB w (.tuple #[.int .i64 0, .int .i64 6])) := by
  go_enter Tryz.func13, Tryz.ntmps13
  go_wp2_with fail
  refine (CK.out _ (by (repeat (first | with_reducible (first | exact Below.refl _ _ | assumption | exact Hid.out (by assumption) | refine Below.alloc ?_ ?_ _ | refine Below.setCell ?_ ?_ _ | refine below_drewN ?_ _ | refine Below.drew ?_ | refine below_via (by assumption) ?_ ?_) | (first | (with_reducible assumption) | omega | (simp only [szW] <;> omega) | (simp <;> omega)))))).mono ?_
  rintro e w1 ⟨rfl, hb1⟩
  have hz_w1 := hb1.size
  try simp only [World.size_alloc, World.size_setCell] at hz_w1
  have hh := bc15 hb1 (al15 (b := w.heap.size) (by simp))
  obtain ⟨c_t0, c_t1, c_t2, c_t3, c_t4, c_t5, c_t6, c_t7, c_t8, c_t9, c_t10, c_t11, c_t12, c_t13, c_t14⟩ := hh
  have z_t := blt hb1 (alz (b := w.heap.size) (by simp))
  have hB1 : Below w.heap.size w w1 := by (repeat (first | with_reducible (first | exact Below.refl _ _ | assumption | exact Hid.out (by assumption) | refine Below.alloc ?_ ?_ _ | refine Below.setCell ?_ ?_ _ | refine below_drewN ?_ _ | refine Below.drew ?_ | refine below_via (by assumption) ?_ ?_) | (first | (with_reducible assumption) | omega | (simp only [szW] <;> omega) | (simp <;> omega))))
  go_wp2_with fail
  refine (VL.out _ hB1).mono ?_
  rintro e w2 ⟨rfl, hb2⟩
  have hz_w2 := hb2.size
  try simp only [World.size_alloc, World.size_setCell] at hz_w2
  have hh := bc15 hb2 ⟨c_t0, c_t1, c_t2, c_t3, c_t4, c_t5, c_t6, c_t7, c_t8, c_t9, c_t10, c_t11, c_t12, c_t13, c_t14⟩
  clear c_t0 c_t1 c_t2 c_t3 c_t4 c_t5 c_t6 c_t7 c_t8 c_t9 c_t10 c_t11 c_t12 c_t13 c_t14
  obtain ⟨c_t0, c_t1, c_t2, c_t3, c_t4, c_t5, c_t6, c_t7, c_t8, c_t9, c_t10, c_t11, c_t12, c_t13, c_t14⟩ := hh
  replace z_t := blt hb2 z_t
  have hB2 := below_via hb2 hB1 hB1.size
  go_wp2
  go_ret2
  exact ⟨rfl, hB2⟩
set_option maxRecDepth 100000 in
theorem pmaGet_no (c : Cfg) (s : SlC) (wa ka va ca : Option Addr) (wc kc vc cc : Nat) (key : Int) (w : World) (CK : Hid (∀ W, Below w.heap.size w W → Calls Tryz.prog 14 #[.agg #[.int .u8 c.tag, .int .i64 c.most, .int .i64 c.seg, .int .i64 c.least, .int .i64 c.den, .int .i64 c.ll, .int .i64 c.rl, .int .i64 c.rh, .int .i64 c.lh, .int .i64 s.seg, .slice wa s.ws.length wc, .slice ka s.ks.length kc, .slice va s.vs.length vc, .slice ca s.cs.length cc, .int .u64 s.laid]] W (AnsB W (.int .i64 0)))) (FD : Hid (∀ W, Below w.heap.size w W → Calls Tryz.prog 30 #[.agg #[.int .i64 s.seg, .slice wa s.ws.length wc, .slice ka s.ks.length kc, .slice va s.vs.length vc, .slice ca s.cs.length cc, .int .u64 s.laid], .int .i64 key] W (AnsB W (.tuple #[.int .i64 0, .int .i64 6])))) :
    Calls Tryz.prog 12 #[.agg #[.int .u8 c.tag, .int .i64 c.most, .int .i64 c.seg, .int .i64 c.least, .int .i64 c.den, .int .i64 c.ll, .int .i64 c.rl, .int .i64 c.rh, .int .i64 c.lh, .int .i64 s.seg, .slice wa s.ws.length wc, .slice ka s.ks.length kc, .slice va s.vs.length vc, .slice ca s.cs.length cc, .int .u64 s.laid], .int .i64 key] w (AnsB w (.tuple #[.int .i64 0, .int .i64 6])) := by
  go_enter Tryz.func12, Tryz.ntmps12
  go_wp2_with fail
  refine (CK.out _ (by (repeat (first | with_reducible (first | exact Below.refl _ _ | assumption | exact Hid.out (by assumption) | refine Below.alloc ?_ ?_ _ | refine Below.setCell ?_ ?_ _ | refine below_drewN ?_ _ | refine Below.drew ?_ | refine below_via (by assumption) ?_ ?_) | (first | (with_reducible assumption) | omega | (simp only [szW] <;> omega) | (simp <;> omega)))))).mono ?_
  rintro e w1 ⟨rfl, hb1⟩
  have hz_w1 := hb1.size
  try simp only [World.size_alloc, World.size_setCell] at hz_w1
  have hh := bc15 hb1 (al15 (b := w.heap.size) (by simp))
  obtain ⟨c_t0, c_t1, c_t2, c_t3, c_t4, c_t5, c_t6, c_t7, c_t8, c_t9, c_t10, c_t11, c_t12, c_t13, c_t14⟩ := hh
  have z_t := blt hb1 (alz (b := w.heap.size) (by simp))
  have hB1 : Below w.heap.size w w1 := by (repeat (first | with_reducible (first | exact Below.refl _ _ | assumption | exact Hid.out (by assumption) | refine Below.alloc ?_ ?_ _ | refine Below.setCell ?_ ?_ _ | refine below_drewN ?_ _ | refine Below.drew ?_ | refine below_via (by assumption) ?_ ?_) | (first | (with_reducible assumption) | omega | (simp only [szW] <;> omega) | (simp <;> omega))))
  go_wp2_with fail
  refine (FD.out _ hB1).mono ?_
  rintro e w2 ⟨rfl, hb2⟩
  have hz_w2 := hb2.size
  try simp only [World.size_alloc, World.size_setCell] at hz_w2
  have hh := bc15 hb2 ⟨c_t0, c_t1, c_t2, c_t3, c_t4, c_t5, c_t6, c_t7, c_t8, c_t9, c_t10, c_t11, c_t12, c_t13, c_t14⟩
  clear c_t0 c_t1 c_t2 c_t3 c_t4 c_t5 c_t6 c_t7 c_t8 c_t9 c_t10 c_t11 c_t12 c_t13 c_t14
  obtain ⟨c_t0, c_t1, c_t2, c_t3, c_t4, c_t5, c_t6, c_t7, c_t8, c_t9, c_t10, c_t11, c_t12, c_t13, c_t14⟩ := hh
  replace z_t := blt hb2 z_t
  have hB2 := below_via hb2 hB1 hB1.size
  go_wp2
  go_ret2
  exact ⟨rfl, hB2⟩
set_option maxRecDepth 100000 in
theorem pmaGet_yes (c : Cfg) (s : SlC) (wa ka ca : Option Addr) (b off : Nat) (wc kc vc cc : Nat) (key x : Int) (r m : Nat) (hm : s.vs.length = m) (hr : r < m) (w : World) (hc : w.cell? ⟨b, off + r, none⟩ = some (.int .i64 x)) (hlt : b < w.heap.size) (CK : Hid (∀ W, Below w.heap.size w W → Calls Tryz.prog 14 #[.agg #[.int .u8 c.tag, .int .i64 c.most, .int .i64 c.seg, .int .i64 c.least, .int .i64 c.den, .int .i64 c.ll, .int .i64 c.rl, .int .i64 c.rh, .int .i64 c.lh, .int .i64 s.seg, .slice wa s.ws.length wc, .slice ka s.ks.length kc, .slice (some ⟨b, off, none⟩) m vc, .slice ca s.cs.length cc, .int .u64 s.laid]] W (AnsB W (.int .i64 0)))) (FD : Hid (∀ W, Below w.heap.size w W → Calls Tryz.prog 30 #[.agg #[.int .i64 s.seg, .slice wa s.ws.length wc, .slice ka s.ks.length kc, .slice (some ⟨b, off, none⟩) m vc, .slice ca s.cs.length cc, .int .u64 s.laid], .int .i64 key] W (AnsB W (.tuple #[.int .i64 r, .int .i64 0])))) :
    Calls Tryz.prog 12 #[.agg #[.int .u8 c.tag, .int .i64 c.most, .int .i64 c.seg, .int .i64 c.least, .int .i64 c.den, .int .i64 c.ll, .int .i64 c.rl, .int .i64 c.rh, .int .i64 c.lh, .int .i64 s.seg, .slice wa s.ws.length wc, .slice ka s.ks.length kc, .slice (some ⟨b, off, none⟩) m vc, .slice ca s.cs.length cc, .int .u64 s.laid], .int .i64 key] w (AnsB w (.tuple #[.int .i64 x, .int .i64 0])) := by
  clear hm
  go_enter Tryz.func12, Tryz.ntmps12
  go_wp2_with fail
  refine (CK.out _ (by (repeat (first | with_reducible (first | exact Below.refl _ _ | assumption | exact Hid.out (by assumption) | refine Below.alloc ?_ ?_ _ | refine Below.setCell ?_ ?_ _ | refine below_drewN ?_ _ | refine Below.drew ?_ | refine below_via (by assumption) ?_ ?_) | (first | (with_reducible assumption) | omega | (simp only [szW] <;> omega) | (simp <;> omega)))))).mono ?_
  rintro e w1 ⟨rfl, hb1⟩
  have hz_w1 := hb1.size
  try simp only [World.size_alloc, World.size_setCell] at hz_w1
  have hh := bc15 hb1 (al15 (b := w.heap.size) (by simp))
  obtain ⟨c_t0, c_t1, c_t2, c_t3, c_t4, c_t5, c_t6, c_t7, c_t8, c_t9, c_t10, c_t11, c_t12, c_t13, c_t14⟩ := hh
  have z_t := blt hb1 (alz (b := w.heap.size) (by simp))
  have hB1 : Below w.heap.size w w1 := by (repeat (first | with_reducible (first | exact Below.refl _ _ | assumption | exact Hid.out (by assumption) | refine Below.alloc ?_ ?_ _ | refine Below.setCell ?_ ?_ _ | refine below_drewN ?_ _ | refine Below.drew ?_ | refine below_via (by assumption) ?_ ?_) | (first | (with_reducible assumption) | omega | (simp only [szW] <;> omega) | (simp <;> omega))))
  go_wp2_with fail
  refine (FD.out _ hB1).mono ?_
  rintro e w2 ⟨rfl, hb2⟩
  have hz_w2 := hb2.size
  try simp only [World.size_alloc, World.size_setCell] at hz_w2
  have hh := bc15 hb2 ⟨c_t0, c_t1, c_t2, c_t3, c_t4, c_t5, c_t6, c_t7, c_t8, c_t9, c_t10, c_t11, c_t12, c_t13, c_t14⟩
  clear c_t0 c_t1 c_t2 c_t3 c_t4 c_t5 c_t6 c_t7 c_t8 c_t9 c_t10 c_t11 c_t12 c_t13 c_t14
  obtain ⟨c_t0, c_t1, c_t2, c_t3, c_t4, c_t5, c_t6, c_t7, c_t8, c_t9, c_t10, c_t11, c_t12, c_t13, c_t14⟩ := hh
  replace z_t := blt hb2 z_t
  have hB2 := below_via hb2 hB1 hB1.size
  replace hc := (hB2.cell (p := ⟨b, off + r, none⟩) hlt).trans hc
  go_wp2
  go_ret2
  exact ⟨rfl, hB2⟩
end

section
open Go.RowKit

/-- a map that may be, in numbers -/
theorem pm_zero {c : Cfg} {s : SlC} (h : pmE c s = 0) : gapE c s = 0 ∧ seekE s = 0 := by
  unfold pmE at h
  split at h
  · rename_i g; exact ⟨g, h⟩
  · rename_i g; exact absurd h g
theorem pm_nums {c : Cfg} {s : SlC} (h : pmE c s = 0) (hu : U64s s.ws) : ∃ a H, GapN c s a H ∧ SlGd s (2 ^ a) ((s.ks.length + 63) / 64) s.ks.length (2 ^ H) ∧ 2 ^ a ≤ 64 ∧ s.ks.length ≤ 65536 ∧ s.ks.length ≤ 64 * s.ws.length ∧ s.vs.length = s.ks.length ∧ s.cs.length = 2 ^ H ∧ 2 ^ H ≤ 65536 := by
  obtain ⟨hc, a, H, k, -⟩ := gap_zero (pm_zero h).1
  obtain ⟨g, -⟩ := gapN_gd k hu
  have ha6 : 2 ^ a ≤ 2 ^ 6 := Nat.pow_le_pow_right (by omega) k.cap.a6
  have hnm := g.nm
  have hw := g.elw
  have hn : 1 * 2 ^ H ≤ 2 ^ a * 2 ^ H := Nat.mul_le_mul_right _ (Nat.two_pow_pos a)
  have hk := k.nk
  exact ⟨a, H, k, g, by omega, by omega, by omega, by rw [k.nv, k.nk], k.nc, by omega⟩
theorem sum_all {c : Cfg} {s : SlC} {a H : Nat} (k : GapN c s a H) (g : SlGd s (2 ^ a) ((s.ks.length + 63) / 64) s.ks.length (2 ^ H)) : sumC s.cs 0 s.cs.length = ((prs s 0 s.ks.length).length : Int) := by
  rw [prs_length, k.nc, sumC_cnt2 g (Nat.zero_le _) (Nat.le_refl _), Nat.zero_mul, Nat.mul_comm, ← k.nk]
theorem szV_ok {c : Cfg} {s : SlC} (h : pmE c s = 0) : szV c s = (((prs s 0 s.ks.length).length : Int), 0) := if_pos h
theorem szV_no {c : Cfg} {s : SlC} (h : ¬ pmE c s = 0) : szV c s = (0, pmE c s) := if_neg h
theorem Of11_ok {c : Cfg} {s : SlC} (h : pmE c s = 0) (sa : SlA) (w : World) (hin : SlIn w s sa) : Calls Tryz.prog 52 #[slV s sa, .int .i64 0, .int .i64 s.ks.length] w (FreshPr w (prs s 0 s.ks.length)) := by
  obtain ⟨a, H, k, g, q1, q2, q3, q4, -⟩ := pm_nums h hin.u
  exact Of04_ok s sa 0 s.ks.length (by omega) q3 (Nat.le_refl _) q4 (by omega) w hin
theorem Prs11_ok {c : Cfg} {s : SlC} (h : pmE c s = 0) (sa : SlA) (w : World) (hin : SlIn w s sa) : Calls Tryz.prog 29 #[pmV c s sa] w (FreshPr w (prs s 0 s.ks.length)) :=
  Pairs11_ok c s sa.wa sa.ka sa.va sa.ca sa.wc sa.kc sa.vc sa.cc _ w (Lib.hid fun W hb => Of11_ok h sa W (hin.below hb))
theorem Size11_ok (c : Cfg) (s : SlC) (sa : SlA) (hl : s.ws.length ≤ 1000000000000) (hl2 : s.ks.length ≤ 1000000000000) (w : World) (hin : SlIn w s sa) :
    Calls Tryz.prog 11 #[pmV c s sa] w (AnsB w (.tuple #[.int .i64 (szV c s).1, .int .i64 (szV c s).2])) := by
  by_cases h : pmE c s = 0
  · rw [szV_ok h]
    exact Size11_in c s sa.wa sa.ka sa.va sa.ca sa.wc sa.kc sa.vc sa.cc _ w (Lib.hid fun W hb => h ▸ Check11_ok c s sa hl hl2 W (hin.below hb)) (Lib.hid fun W hb => Prs11_ok h sa W (hin.below hb))
  · rw [szV_no h]
    exact Size11_err c s sa.wa sa.ka sa.va sa.ca sa.wc sa.kc sa.vc sa.cc _ h w (Lib.hid fun W hb => Check11_ok c s sa hl hl2 W (hin.below hb))
theorem pmaSize_ok (c : Cfg) (s : SlC) (sa : SlA) (hl : s.ws.length ≤ 1000000000000) (hl2 : s.ks.length ≤ 1000000000000) (hcc : s.cs.length ≤ sa.cc) (w : World) (hin : SlIn w s sa) :
    Calls Tryz.prog 10 #[pmV c s sa] w (AnsB w (.tuple #[.int .i64 (szV c s).1, .int .i64 (szV c s).2])) := by
  by_cases h : pmE c s = 0
  · rw [szV_ok h]
    obtain ⟨a, H, k, g, q1, q2, q3, q4, q5, q6⟩ := pm_nums h hin.u
    rw [← sum_all k g]
    exact pmaSize_in c s sa.wa sa.ka sa.va sa.ca sa.wc sa.kc sa.vc sa.cc (2 ^ a) q1 k.cnt (by omega) w hin.n (Lib.hid fun W hb => h ▸ pmaCheck_ok c s sa hl hl2 hcc W (hin.below hb))
  · rw [szV_no h]
    exact pmaSize_err c s sa.wa sa.ka sa.va sa.ca sa.wc sa.kc sa.vc sa.cc _ h w (Lib.hid fun W hb => pmaCheck_ok c s sa hl hl2 hcc W (hin.below hb))
theorem getPV_some {c : Cfg} {s : SlC} {key : Int} {p : Int × Int} (h : pmE c s = 0) (hf : fndL (prs s 0 s.ks.length) key = some p) : getPV c s key = (p.2, 0) := by rw [getPV, if_pos h, hf]
theorem getPV_none {c : Cfg} {s : SlC} {key : Int} (h : pmE c s = 0) (hf : fndL (prs s 0 s.ks.length) key = none) : getPV c s key = (0, 6) := by rw [getPV, if_pos h, hf]
theorem getPV_err {c : Cfg} {s : SlC} {key : Int} (h : ¬ pmE c s = 0) : getPV c s key = (0, pmE c s) := if_neg h
theorem Val11_ok {c : Cfg} {s : SlC} (h : pmE c s = 0) (sa : SlA) (key : Int) (w : World) (hin : SlIn w s sa) : Calls Tryz.prog 31 #[pmV c s sa, .int .i64 key] w (AnsB w (.tuple #[.int .i64 (valV (prs s 0 s.ks.length) key).1, .bool (valV (prs s 0 s.ks.length) key).2])) := by
  obtain ⟨a, H, k, g, q1, q2, q3, q4, q5, q6⟩ := pm_nums h hin.u
  exact Value11_ok c s sa.wa sa.ka sa.va sa.ca sa.wc sa.kc sa.vc sa.cc _ key (by rw [prs_length]; have := cntW_le s.ws 0 s.ks.length; omega) w (Lib.hid fun W hb => Prs11_ok h sa W (hin.below hb))
theorem Get11_ok (c : Cfg) (s : SlC) (sa : SlA) (key : Int) (hl : s.ws.length ≤ 1000000000000) (hl2 : s.ks.length ≤ 1000000000000) (w : World) (hin : SlIn w s sa) :
    Calls Tryz.prog 13 #[pmV c s sa, .int .i64 key] w (AnsB w (.tuple #[.int .i64 (getPV c s key).1, .int .i64 (getPV c s key).2])) := by
  by_cases h : pmE c s = 0
  · have CK := Lib.hid (fun W (hb : Below w.heap.size w W) => Check11_ok c s sa hl hl2 W (hin.below hb))
    rw [h] at CK
    have VL := Lib.hid (fun W (hb : Below w.heap.size w W) => Val11_ok h sa key W (hin.below hb))
    cases hf : fndL (prs s 0 s.ks.length) key with
    | some p =>
      rw [getPV_some h hf]
      rw [show valV (prs s 0 s.ks.length) key = (p.2, true) by rw [valV, hf]] at VL
      exact Get11_true c s sa.wa sa.ka sa.va sa.ca sa.wc sa.kc sa.vc sa.cc key _ w CK VL
    | none =>
      rw [getPV_none h hf]
      rw [show valV (prs s 0 s.ks.length) key = (0, false) by rw [valV, hf]] at VL
      exact Get11_false c s sa.wa sa.ka sa.va sa.ca sa.wc sa.kc sa.vc sa.cc key _ w CK VL
  · rw [getPV_err h]
    exact Get11_err c s sa.wa sa.ka sa.va sa.ca sa.wc sa.kc sa.vc sa.cc key _ h w (Lib.hid fun W hb => Check11_ok c s sa hl hl2 W (hin.below hb))
theorem pmaGet_ok (c : Cfg) (s : SlC) (sa : SlA) (key : Int) (hl : s.ws.length ≤ 1000000000000) (hl2 : s.ks.length ≤ 1000000000000) (hcc : s.cs.length ≤ sa.cc) (w : World) (hin : SlIn w s sa) (hT : TabAt w) :
    Calls Tryz.prog 12 #[pmV c s sa, .int .i64 key] w (AnsB w (.tuple #[.int .i64 (getPV c s key).1, .int .i64 (getPV c s key).2])) := by
  by_cases h : pmE c s = 0
  · have CK := Lib.hid (fun W (hb : Below w.heap.size w W) => pmaCheck_ok c s sa hl hl2 hcc W (hin.below hb))
    rw [h] at CK
    have FD := Lib.hid (fun W (hb : Below w.heap.size w W) => seekFind_ok s sa key hl hl2 W (hin.below hb) (hT.below hb))
    obtain ⟨a, H, k, g, q1, q2, q3, q4, q5, q6⟩ := pm_nums h hin.u
    rcases find_get (key := key) (pm_zero h).2 with ⟨r, e1, hr, -, -, hf⟩ | ⟨e1, hf⟩
    · rw [getPV_some h hf]
      rw [e1] at FD
      obtain ⟨b, off, x, hva, hx, hc, hlt⟩ := hin.v.get (i := r) (by rw [q4]; exact hr)
      rw [hx.out]
      obtain ⟨wa, ka, va, ca, wc, kc, vc, cc⟩ := sa
      dsimp only at hva
      subst hva
      exact pmaGet_yes c s wa ka ca b off wc kc vc cc key x r s.vs.length rfl (by rw [q4]; exact hr) w hc hlt CK FD
    · rw [getPV_none h hf]
      rw [e1] at FD
      exact pmaGet_no c s sa.wa sa.ka sa.va sa.ca sa.wc sa.kc sa.vc sa.cc key w CK FD
  · rw [getPV_err h]
    exact pmaGet_err c s sa.wa sa.ka sa.va sa.ca sa.wc sa.kc sa.vc sa.cc key _ h w (Lib.hid fun W hb => pmaCheck_ok c s sa hl hl2 hcc W (hin.below hb))
end
end Go.Proofs.YtmnlagmmbfjbeaaGreatDoor
