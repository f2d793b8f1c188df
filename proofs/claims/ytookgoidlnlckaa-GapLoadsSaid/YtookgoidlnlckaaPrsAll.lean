/- Merged: PrsIt, Prs. -/
import Derived.Test.YtookgoidlnlckaaOccAll
import Derived.Test.YtookgoidlnlckaaInvL
import Derived.Test.YtookgoidlnlckaaSlRef
import Derived.Test.YtookgoidlnlckaaRowAll
namespace Go.Proofs.Ytookgoidlnlckaa
set_option linter.unusedVariables false
set_option linter.unusedSimpArgs false
section
open Go.RowKit Go.Shelf
attribute [local go_sem] Oper.semAt_some

theorem cell_at_drew {W W' : World} (h : ∃ q, W' = W.drewN q) {p : Addr} {v : Value} (hc : W.cell? p = some v) : W'.cell? p = some v := by
  obtain ⟨q, rfl⟩ := h
  exact hc

/-- the boxes that the iterator has: from, to, the array -/
structure PrBox (W : World) (b1 b2 b3 : Nat) (c : SlC) (a : SlA) (lo hi : Nat) : Prop where
  lo : W.cell? ⟨b1, 0, none⟩ = some (.int .i64 lo)
  hi : W.cell? ⟨b2, 0, none⟩ = some (.int .i64 hi)
  c0 : W.cell? ⟨b3, 0, none⟩ = some (.int .i64 c.seg)
  c1 : W.cell? ⟨b3, 1, none⟩ = some (.slice a.wa c.ws.length a.wc)
  c2 : W.cell? ⟨b3, 2, none⟩ = some (.slice a.ka c.ks.length a.kc)
  c3 : W.cell? ⟨b3, 3, none⟩ = some (.slice a.va c.vs.length a.vc)
  c4 : W.cell? ⟨b3, 4, none⟩ = some (.slice a.ca c.cs.length a.cc)
  c5 : W.cell? ⟨b3, 5, none⟩ = some (.int .u64 c.laid)
theorem PrBox.below {W W' : World} {b1 b2 b3 : Nat} {c : SlC} {a : SlA} {lo hi : Nat} (h : PrBox W b1 b2 b3 c a lo hi) (hb : Below W.heap.size W W') : PrBox W' b1 b2 b3 c a lo hi :=
  have t {p v} (hc : W.cell? p = some v) : W'.cell? p = some v := (hb.cell (World.block_lt_of_cell? _ _ hc)).trans hc
  ⟨t h.lo, t h.hi, t h.c0, t h.c1, t h.c2, t h.c3, t h.c4, t h.c5⟩
theorem PrBox.kept {S : Nat → Prop} {W W' : World} {b1 b2 b3 : Nat} {c : SlC} {a : SlA} {lo hi : Nat} (h : PrBox W b1 b2 b3 c a lo hi) (hk : KpS S W W') (s1 : S b1) (s2 : S b2) (s3 : S b3) : PrBox W' b1 b2 b3 c a lo hi :=
  ⟨hk.cell (a := ⟨b1, 0, none⟩) s1 h.lo, hk.cell (a := ⟨b2, 0, none⟩) s2 h.hi, hk.cell (a := ⟨b3, 0, none⟩) s3 h.c0, hk.cell (a := ⟨b3, 1, none⟩) s3 h.c1, hk.cell (a := ⟨b3, 2, none⟩) s3 h.c2, hk.cell (a := ⟨b3, 3, none⟩) s3 h.c3, hk.cell (a := ⟨b3, 4, none⟩) s3 h.c4, hk.cell (a := ⟨b3, 5, none⟩) s3 h.c5⟩
end

section
open Go.RowKit Go.Shelf
attribute [local go_sem] Oper.semAt_some

theorem info_Pair : (Try.prog.info? 52).map (fun i => (i.zero, i.size, i.bytes)) = some (some (.agg #[.int .i64 0, .int .i64 0]), 2, 16) := by kernel_rfl
/-- pairs as they lie in memory -/
def prI (l : List (Int × Int)) : List Int := l.flatMap fun p => [p.1, p.2]
theorem prI_append (a b : List (Int × Int)) : prI (a ++ b) = prI a ++ prI b := by simp [prI]
theorem prI_length (l : List (Int × Int)) : (prI l).length = l.length * 2 := by
  induction l with
  | nil => rfl
  | cons p r ih => rw [show prI (p :: r) = [p.1, p.2] ++ prI r from rfl, List.length_append, ih]; simp; omega
theorem prI_get {l : List (Int × Int)} {i : Nat} (h : i < l.length) : (prI l).getD (i * 2) 0 = (l.getD i (0, 0)).1 ∧ (prI l).getD (i * 2 + 1) 0 = (l.getD i (0, 0)).2 := by
  induction l generalizing i with
  | nil => simp at h
  | cons p r ih =>
    rw [show prI (p :: r) = p.1 :: p.2 :: prI r from rfl]
    cases i with
    | zero => simp
    | succ i =>
      have := ih (i := i) (by simpa using h)
      rw [show (i + 1) * 2 = i * 2 + 1 + 1 by omega, show i * 2 + 1 + 1 + 1 = (i * 2 + 1) + 1 + 1 by omega]
      simp only [List.getD_cons_succ]
      exact this
/-- the block of a row of one's own has cells -/
theorem own_isCells {w : World} {B : Nat} {e : TypeId} {s : Nat} {v : Value} {n : Nat} {xs : List Value} (h : w.ownsRow B e s v n xs) : ∀ (j : Nat) (o : Obj), v.ownBlock = some j → w.heap[j]? = some o → o.isCells = true := by
  intro j o hj ho
  obtain ⟨-, ⟨rfl, -⟩ | ⟨g, cap, cur, rfl, -, hh, -⟩⟩ := h
  · cases hj
  · cases hj
    rw [hh] at ho
    cases ho
    rfl

structure AppI (l : List (Int × Int)) (B : Nat) (w : World) (k : Nat) (W : World) : Prop where
  own : ∃ v, W.cell? ⟨B, 0, none⟩ = some v ∧ W.ownsRow (B + 1) 52 2 v k ((prI (l.take k)).map (Value.int .i64))
  fz : W.frozen? ⟨B, 0, none⟩ = false
  bel : Below B w W
theorem AppI.calm {l : List (Int × Int)} {B M : Nat} {w : World} {k : Nat} {W W' : World} (h : AppI l B w k W) (hc : Calm M W W') (hB : B ≤ M) : AppI l B w k W' := by
  obtain ⟨⟨v, h1, h2⟩, h3, h4⟩ := h
  exact ⟨⟨v, hc.cell h1, hc.owns h2⟩, hc.frozen h1 h3, hc.below hB h4⟩

/-- the error of a part -/
def partE (c : SlC) (lo hi : Int) : Int := if slMay c = true then (if 0 ≤ lo ∧ lo ≤ hi ∧ hi ≤ c.ks.length then 0 else 2) else 8
theorem part_ok (c : SlC) (a : SlA) (hl : c.ws.length ≤ 1000000000000) (hl2 : c.ks.length ≤ 1000000000000) (lo hi : Int) (w : World) (hin : SlIn w c a) :
    Calls Try.prog 65 #[slV c a, .int .i64 lo, .int .i64 hi] w (AnsB w (.int .i64 (partE c lo hi))) := by
  have CK := Lib.hid (slCheck_ok c a hl hl2 _ (hin.below ((Below.refl _ w).alloc (Nat.le_refl _) (.cells #[.int .i64 c.seg, .slice a.wa c.ws.length a.wc, .slice a.ka c.ks.length a.kc, .slice a.va c.vs.length a.vc, .slice a.ca c.cs.length a.cc, .int .u64 c.laid] 29))))
  by_cases hm : slMay c = true
  · have e0 : slE c = 0 := if_pos hm
    rw [e0] at CK
    have hv : partE c lo hi = if 0 ≤ lo ∧ lo ≤ hi ∧ hi ≤ c.ks.length then 0 else 2 := if_pos hm
    have hsp : (partE c lo hi = 0 ∧ 0 ≤ lo ∧ lo ≤ hi ∧ hi ≤ c.ks.length) ∨ (partE c lo hi = 2 ∧ lo < 0) ∨ (partE c lo hi = 2 ∧ 0 ≤ lo ∧ hi < lo) ∨ (partE c lo hi = 2 ∧ 0 ≤ lo ∧ lo ≤ hi ∧ (c.ks.length : Int) < hi) := by
      by_cases h : 0 ≤ lo ∧ lo ≤ hi ∧ hi ≤ c.ks.length
      · rw [if_pos h] at hv
        exact .inl ⟨hv, h⟩
      · rw [if_neg h] at hv
        by_cases h1 : lo < 0
        · exact .inr (.inl ⟨hv, h1⟩)
        · by_cases h2 : hi < lo
          · exact .inr (.inr (.inl ⟨hv, by omega, h2⟩))
          · exact .inr (.inr (.inr ⟨hv, by omega, by omega, by omega⟩))
    generalize partE c lo hi = ev at *
    obtain ⟨seg, ws, ks, vs, cs, laid⟩ := c
    obtain ⟨wa, ka, va, ca, wc, kc, vc, cc⟩ := a
    dsimp only [slV] at *
    clear hin hm e0 hv
    generalize ws.length = lw at *
    generalize ks.length = n at *
    generalize vs.length = lv at *
    generalize cs.length = lc at *
    rcases hsp with ⟨rfl, h1, h2, h3⟩ | ⟨rfl, h1⟩ | ⟨rfl, h1, h2⟩ | ⟨rfl, h1, h2, h3⟩
    all_goals
      go_enter Try.func65, Try.ntmps65
      go_wp2_with fail
      refine (CK.out).mono ?_
      rintro e w1 ⟨rfl, hb1⟩
      have hz_w1 := hb1.size
      try simp only [World.size_alloc, World.size_setCell] at hz_w1
      have c_t0 : w1.cell? ⟨w.heap.size, 0, none⟩ = some (.int .i64 seg) := (hb1.cell (p := ⟨w.heap.size, 0, none⟩) (by (first | (with_reducible assumption) | omega | (simp only [szW] <;> omega) | (simp <;> omega)))).trans (by (first | (with_reducible assumption) | ((try simp (disch := first | omega | (simp only [szW] <;> omega) | fail) only [ceW]) <;> first | (with_reducible assumption) | rfl)))
      have c_t1 : w1.cell? ⟨w.heap.size, 1, none⟩ = some (.slice wa lw wc) := (hb1.cell (p := ⟨w.heap.size, 1, none⟩) (by (first | (with_reducible assumption) | omega | (simp only [szW] <;> omega) | (simp <;> omega)))).trans (by (first | (with_reducible assumption) | ((try simp (disch := first | omega | (simp only [szW] <;> omega) | fail) only [ceW]) <;> first | (with_reducible assumption) | rfl)))
      have c_t2 : w1.cell? ⟨w.heap.size, 2, none⟩ = some (.slice ka n kc) := (hb1.cell (p := ⟨w.heap.size, 2, none⟩) (by (first | (with_reducible assumption) | omega | (simp only [szW] <;> omega) | (simp <;> omega)))).trans (by (first | (with_reducible assumption) | ((try simp (disch := first | omega | (simp only [szW] <;> omega) | fail) only [ceW]) <;> first | (with_reducible assumption) | rfl)))
      have z_t : w.heap.size < w1.heap.size := by omega
      have hB1 : Below w.heap.size w w1 := by (repeat (first | with_reducible (first | exact Below.refl _ _ | assumption | exact Hid.out (by assumption) | refine Below.alloc ?_ ?_ _ | refine Below.setCell ?_ ?_ _ | refine below_drewN ?_ _ | refine Below.drew ?_ | refine below_via (by assumption) ?_ ?_) | (first | (with_reducible assumption) | omega | (simp only [szW] <;> omega) | (simp <;> omega))))
      go_wp2
      go_ret
      exact ⟨rfl, hB1⟩
  · have e0 : slE c = 8 := if_neg hm
    have hv : partE c lo hi = 8 := if_neg hm
    rw [e0] at CK
    rw [hv]
    obtain ⟨seg, ws, ks, vs, cs, laid⟩ := c
    obtain ⟨wa, ka, va, ca, wc, kc, vc, cc⟩ := a
    dsimp only [slV] at *
    clear hin hm e0 hv
    go_enter Try.func65, Try.ntmps65
    go_wp2_with fail
    refine (CK.out).mono ?_
    rintro e w1 ⟨rfl, hb1⟩
    have hz_w1 := hb1.size
    try simp only [World.size_alloc, World.size_setCell] at hz_w1
    have hB1 : Below w.heap.size w w1 := by (repeat (first | with_reducible (first | exact Below.refl _ _ | assumption | exact Hid.out (by assumption) | refine Below.alloc ?_ ?_ _ | refine Below.setCell ?_ ?_ _ | refine below_drewN ?_ _ | refine Below.drew ?_ | refine below_via (by assumption) ?_ ?_) | (first | (with_reducible assumption) | omega | (simp only [szW] <;> omega) | (simp <;> omega))))
    go_wp2
    go_ret
    exact ⟨rfl, hB1⟩
end
end Go.Proofs.Ytookgoidlnlckaa
