/- Arguments opened: configs, lists of pairs. -/
import Derived.Test.YtookgoidlnlckaaOpnSl
import Derived.Test.YtookgoidlnlckaaConfPl
import Derived.Test.YtookgoidlnlckaaPrsAll
import Derived.Deep.SlicePairs
namespace Go.Proofs.Ytookgoidlnlckaa
open Go.ChangeShapes Go.WideShapes Go.ChangeAt Go.RowKit Go.Joins Go.Deep Go.WideElems
set_option linter.unusedVariables false
set_option linter.unusedSimpArgs false

theorem array_nine {α : Type} {cs : Array α} (h : cs.size = 9) : ∃ c0 c1 c2 c3 c4 c5 c6 c7 c8, cs = #[c0, c1, c2, c3, c4, c5, c6, c7, c8] := by
  obtain ⟨l⟩ := cs
  match l, h with
  | [c0, c1, c2, c3, c4, c5, c6, c7, c8], _ => exact ⟨c0, c1, c2, c3, c4, c5, c6, c7, c8, rfl⟩
theorem trod_struct_nine {P : Program} {H : Type} {enc : TypeId × Value → H} {w : World} {base : Nat} {spare : Nat → Bool} {held : Bool} {t : TypeId} {f0 f1 f2 f3 f4 f5 f6 f7 f8 : Field} {fuel : Nat} {cs : List Value} {x : DataW H × List MemPlace} (ht : P.underlying t = some (.struct #[f0, f1, f2, f3, f4, f5, f6, f7, f8])) (h : DataW.trod enc P w base spare held fuel t cs = some x) :
    ∃ y0 y1 y2 y3 y4 y5 y6 y7 y8 n, DataW.trod enc P w base spare held n f0.type ((cs.drop f0.offset).take (P.cellsOf f0.type)) = some y0 ∧ DataW.trod enc P w base spare held n f1.type ((cs.drop f1.offset).take (P.cellsOf f1.type)) = some y1 ∧ DataW.trod enc P w base spare held n f2.type ((cs.drop f2.offset).take (P.cellsOf f2.type)) = some y2 ∧ DataW.trod enc P w base spare held n f3.type ((cs.drop f3.offset).take (P.cellsOf f3.type)) = some y3 ∧ DataW.trod enc P w base spare held n f4.type ((cs.drop f4.offset).take (P.cellsOf f4.type)) = some y4 ∧ DataW.trod enc P w base spare held n f5.type ((cs.drop f5.offset).take (P.cellsOf f5.type)) = some y5 ∧ DataW.trod enc P w base spare held n f6.type ((cs.drop f6.offset).take (P.cellsOf f6.type)) = some y6 ∧ DataW.trod enc P w base spare held n f7.type ((cs.drop f7.offset).take (P.cellsOf f7.type)) = some y7 ∧ DataW.trod enc P w base spare held n f8.type ((cs.drop f8.offset).take (P.cellsOf f8.type)) = some y8 := by
  obtain ⟨xs, n, _, rfl, hl, hlen, hf⟩ := DataW.trod_struct ht h
  match xs, hlen with
  | [y0, y1, y2, y3, y4, y5, y6, y7, y8], _ => exact ⟨y0, y1, y2, y3, y4, y5, y6, y7, y8, n, by simpa using hf 0 f0 rfl, by simpa using hf 1 f1 rfl, by simpa using hf 2 f2 rfl, by simpa using hf 3 f3 rfl, by simpa using hf 4 f4 rfl, by simpa using hf 5 f5 rfl, by simpa using hf 6 f6 rfl, by simpa using hf 7 f7 rfl, by simpa using hf 8 f8 rfl⟩
theorem open_nine {P : Program} {H : Type} {enc : TypeId × Value → H} {w : World} {base : Nat} {spare : Nat → Bool} {held : Bool} {r : Reach} {b0 : Nat} {t : TypeId} {f0 f1 f2 f3 f4 f5 f6 f7 f8 : Field} {v : Value} {d : DataW H} {p : List MemPlace} (hs : P.underlying t = some (.struct #[f0, f1, f2, f3, f4, f5, f6, f7, f8])) (hone : oneCellFields P #[f0, f1, f2, f3, f4, f5, f6, f7, f8] = true) (hC : P.cellsOf t = 9)
    (hv : Value.okWide P w r b0 t v) (h : DataW.Trod enc P w base spare held t v d p) :
    ∃ (v0 v1 v2 v3 v4 v5 v6 v7 v8 : Value) (y0 y1 y2 y3 y4 y5 y6 y7 y8 : DataW H × List MemPlace) (n : Nat), v = .agg #[v0, v1, v2, v3, v4, v5, v6, v7, v8] ∧
      DataW.trod enc P w base spare held n f0.type [v0] = some y0 ∧ DataW.trod enc P w base spare held n f1.type [v1] = some y1 ∧ DataW.trod enc P w base spare held n f2.type [v2] = some y2 ∧ DataW.trod enc P w base spare held n f3.type [v3] = some y3 ∧ DataW.trod enc P w base spare held n f4.type [v4] = some y4 ∧ DataW.trod enc P w base spare held n f5.type [v5] = some y5 ∧ DataW.trod enc P w base spare held n f6.type [v6] = some y6 ∧ DataW.trod enc P w base spare held n f7.type [v7] = some y7 ∧ DataW.trod enc P w base spare held n f8.type [v8] = some y8 := by
  obtain ⟨cs, rfl, hsz⟩ := okWide_struct hs hv
  obtain ⟨c0, c1, c2, c3, c4, c5, c6, c7, c8, rfl⟩ := array_nine (hsz.trans hC)
  obtain ⟨fuel, hf⟩ := h
  obtain ⟨y0, y1, y2, y3, y4, y5, y6, y7, y8, n, h0, h1, h2, h3, h4, h5, h6, h7, h8⟩ := trod_struct_nine hs hf
  obtain ⟨o0, k0⟩ := hone_of hone 0 f0 rfl
  obtain ⟨o1, k1⟩ := hone_of hone 1 f1 rfl
  obtain ⟨o2, k2⟩ := hone_of hone 2 f2 rfl
  obtain ⟨o3, k3⟩ := hone_of hone 3 f3 rfl
  obtain ⟨o4, k4⟩ := hone_of hone 4 f4 rfl
  obtain ⟨o5, k5⟩ := hone_of hone 5 f5 rfl
  obtain ⟨o6, k6⟩ := hone_of hone 6 f6 rfl
  obtain ⟨o7, k7⟩ := hone_of hone 7 f7 rfl
  obtain ⟨o8, k8⟩ := hone_of hone 8 f8 rfl
  exact ⟨c0, c1, c2, c3, c4, c5, c6, c7, c8, y0, y1, y2, y3, y4, y5, y6, y7, y8, n, rfl, by simpa [Value.cells, o0, k0] using h0, by simpa [Value.cells, o1, k1] using h1, by simpa [Value.cells, o2, k2] using h2, by simpa [Value.cells, o3, k3] using h3, by simpa [Value.cells, o4, k4] using h4, by simpa [Value.cells, o5, k5] using h5, by simpa [Value.cells, o6, k6] using h6, by simpa [Value.cells, o7, k7] using h7, by simpa [Value.cells, o8, k8] using h8⟩
set_option maxRecDepth 20000 in
theorem open_cf {H : Type} {enc : TypeId × Value → H} {w : World} {base : Nat} {spare : Nat → Bool} {held : Bool} {r : Reach} {b0 : Nat} {v : Value} {d : DataW H} {p : List MemPlace}
    (hv : Value.okWide Try.prog w r b0 23 v) (h : DataW.Trod enc Try.prog w base spare held 23 v d p) :
    ∃ c : Cfg, v = cfV c := by
  obtain ⟨v0, v1, v2, v3, v4, v5, v6, v7, v8, y0, y1, y2, y3, y4, y5, y6, y7, y8, n, rfl, t0, t1, t2, t3, t4, t5, t6, t7, t8⟩ := open_nine Try.underlying23 (by kernel_rfl) (by kernel_rfl) hv h
  obtain ⟨z0, e0, -, -⟩ := DataW.trod_int Try.underlying5 t0
  obtain ⟨z1, e1, -, -⟩ := DataW.trod_int Try.underlying3 t1
  obtain ⟨z2, e2, -, -⟩ := DataW.trod_int Try.underlying3 t2
  obtain ⟨z3, e3, -, -⟩ := DataW.trod_int Try.underlying3 t3
  obtain ⟨z4, e4, -, -⟩ := DataW.trod_int Try.underlying3 t4
  obtain ⟨z5, e5, -, -⟩ := DataW.trod_int Try.underlying3 t5
  obtain ⟨z6, e6, -, -⟩ := DataW.trod_int Try.underlying3 t6
  obtain ⟨z7, e7, -, -⟩ := DataW.trod_int Try.underlying3 t7
  obtain ⟨z8, e8, -, -⟩ := DataW.trod_int Try.underlying3 t8
  simp only [List.cons.injEq, and_true] at e0 e1 e2 e3 e4 e5 e6 e7 e8
  subst e0 e1 e2 e3 e4 e5 e6 e7 e8
  exact ⟨⟨z0, z1, z2, z3, z4, z5, z6, z7, z8⟩, rfl⟩
/-- the number that a value is -/
def numV : Value → Int
  | .int _ z => z
  | _ => 0
set_option maxRecDepth 20000 in
theorem open_prs {H : Type} {enc : TypeId × Value → H} {w : World} {base : Nat} {spare : Nat → Bool} {held : Bool} {r : Reach} {b0 : Nat} {v : Value} {d : DataW H} {p : List MemPlace}
    (hv : Value.okWide Try.prog w r b0 30 v) (h : DataW.Trod enc Try.prog w base spare held 30 v d p) :
    ∃ (la : Option Addr) (pl : Nat) (L : List (Int × Int)), v = .slice la L.length pl ∧ IsRow .i64 w la (prI L) ∧ (la = none → pl = 0) := by
  obtain ⟨a0, l0, c0, rfl⟩ := okWide_slice Try.underlying30 hv
  obtain ⟨n, hn⟩ := h
  rcases open_slice_pairs Try.underlying30 Try.underlying52 (by kernel_rfl) (by kernel_rfl) (by kernel_rfl) (by kernel_rfl) (by kernel_rfl) hn with ⟨he, -⟩ | ⟨a, len, cap, m, k, V0, V1, D0, D1, P0, P1, he, -, hl, -, hm, -, hc⟩
  · simp only [Value.cells, List.cons.injEq, and_true] at he
    exact ⟨none, 0, [], he, fun i hi => (by cases hi), fun _ => rfl⟩
  · simp only [Value.cells, List.cons.injEq, and_true] at he
    have hlm : len ≤ m := by rw [hm]; split <;> omega
    have hll : ((List.range len).map fun i => (numV (V0 i), numV (V1 i))).length = len := by simp
    refine ⟨some a, cap, (List.range len).map fun i => (numV (V0 i), numV (V1 i)), by rw [hll]; exact he, ?_, fun h => (by cases h)⟩
    have hcell : ∀ i, i < len → w.cell? (a.add (i * 2)) = some (.int .i64 (numV (V0 i))) ∧ w.cell? (a.add (i * 2 + 1)) = some (.int .i64 (numV (V1 i))) := by
      intro i hi
      obtain ⟨h1, h2, h3, h4⟩ := hc i (by omega)
      obtain ⟨z0, e0, -, -⟩ := DataW.trod_int Try.underlying2 h3
      obtain ⟨z1, e1, -, -⟩ := DataW.trod_int Try.underlying2 h4
      simp only [List.cons.injEq, and_true] at e0 e1
      rw [e0] at h1
      rw [e1] at h2
      rw [e0, e1]
      exact ⟨h1, h2⟩
    have hget : ∀ i, i < len → (prI ((List.range len).map fun i => (numV (V0 i), numV (V1 i)))).getD (i * 2) 0 = numV (V0 i) ∧ (prI ((List.range len).map fun i => (numV (V0 i), numV (V1 i)))).getD (i * 2 + 1) 0 = numV (V1 i) := by
      intro i hi
      have := prI_get (l := (List.range len).map fun i => (numV (V0 i), numV (V1 i))) (i := i) (by rw [hll]; exact hi)
      rw [this.1, this.2]
      simp [List.getD_eq_getElem?_getD, hi]
    intro i hi
    rw [prI_length, hll] at hi
    obtain ⟨b, off, sp⟩ := a
    have h0 := (hcell 0 (by omega)).1
    obtain rfl : sp = none := by simpa [Addr.add] using World.cell?_spot h0
    refine ⟨b, off, rfl, ?_, fun j hj => ?_⟩
    · have := World.block_lt_of_cell? w _ h0
      simpa [Addr.add] using this
    · rw [prI_length, hll] at hj
      have hd : j = j / 2 * 2 ∨ j = j / 2 * 2 + 1 := by omega
      have h1 := hcell (j / 2) (by omega)
      have h2 := hget (j / 2) (by omega)
      rw [Addr.add_lit, Addr.add_lit] at h1
      rcases hd with q | q
      · rw [q, h2.1]
        exact h1.1
      · rw [q, h2.2]
        exact h1.2
end Go.Proofs.Ytookgoidlnlckaa
