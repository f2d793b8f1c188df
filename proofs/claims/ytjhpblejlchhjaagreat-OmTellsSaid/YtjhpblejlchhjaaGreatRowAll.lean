/- Merged: Row, RowIx. -/
import Derived.Test.YtjhpblejlchhjaaGreatInvFc
import Derived.Test.YtjhpblejlchhjaaGreatMLS
import Derived.BigRegion
import Derived.Lib.SliceRun
namespace Go.Proofs.YtjhpblejlchhjaaGreat
set_option maxRecDepth 100000
set_option maxHeartbeats 4000000
set_option linter.unusedVariables false
set_option linter.unusedSimpArgs false
section
open Go.RowKit

def IsRow (k : IntKind) (w : World) (a : Option Addr) (xs : List Int) : Prop :=
  ∀ i, i < xs.length → ∃ b off, a = some ⟨b, off, none⟩ ∧ b < w.heap.size ∧ ∀ j, j < xs.length → w.cell? ⟨b, off + j, none⟩ = some (.int k (xs.getD j 0))
variable {k : IntKind}
theorem IsRow.below {w w' : World} {a : Option Addr} {xs : List Int} (h : IsRow k w a xs) (hb : Below w.heap.size w w') : IsRow k w' a xs := by
  intro i hi
  obtain ⟨b, off, ha, hlt, hc⟩ := h i hi
  exact ⟨b, off, ha, Nat.lt_of_lt_of_le hlt hb.size, fun j hj => (hb.cell (p := ⟨b, off + j, none⟩) hlt).trans (hc j hj)⟩
theorem IsRow.alloc {w : World} {a : Option Addr} {xs : List Int} (h : IsRow k w a xs) (o : Obj) : IsRow k (w.alloc o) a xs := h.below ((Below.refl _ _).alloc (Nat.le_refl _) _)
theorem IsRow.drewN {w : World} {a : Option Addr} {xs : List Int} (h : IsRow k w a xs) (n : Nat) : IsRow k (w.drewN n) a xs := h
theorem IsRow.setCell {w : World} {a : Option Addr} {xs : List Int} (h : IsRow k w a xs) {p : Addr} (hne : ∀ x, a = some x → x.block ≠ p.block) (v : Value) : IsRow k (w.setCell p v) a xs := by
  intro i hi
  obtain ⟨b, off, ha, hlt, hc⟩ := h i hi
  refine ⟨b, off, ha, by simpa using hlt, fun j hj => ?_⟩
  rw [World.cell?_setCell_other]
  · exact hc j hj
  · intro e
    exact hne _ ha (by rw [e])
theorem IsRow.get {w : World} {a : Option Addr} {xs : List Int} (h : IsRow k w a xs) {i : Nat} (hi : i < xs.length) :
    ∃ b off x, a = some ⟨b, off, none⟩ ∧ Hid (xs.getD i 0 = x) ∧ w.cell? ⟨b, off + i, none⟩ = some (.int k x) ∧ b < w.heap.size := by
  obtain ⟨b, off, ha, hlt, hc⟩ := h i hi
  exact ⟨b, off, _, ha, Lib.hid rfl, hc i hi, hlt⟩
theorem IsRow.take {w : World} {a : Option Addr} {xs : List Int} (h : IsRow k w a xs) (n : Nat) (hn : n ≤ xs.length) : IsRow k w a (xs.take n) := by
  intro i hi
  have hi' : i < n := by simp at hi; omega
  obtain ⟨b, off, ha, hlt, hc⟩ := h i (by omega)
  refine ⟨b, off, ha, hlt, fun j hj => ?_⟩
  have hj' : j < n := by simp at hj; omega
  rw [hc j (by omega)]
  simp [List.getD_eq_getElem?_getD, List.getElem?_take, hj']
theorem IsRow.get2 {w : World} {a : Option Addr} {xs : List Int} (h : IsRow k w a xs) {i : Nat} (hi : i * 2 + 2 ≤ xs.length) :
    ∃ b off x y, a = some ⟨b, off, none⟩ ∧ Hid (xs.getD (i * 2) 0 = x) ∧ Hid (xs.getD (i * 2 + 1) 0 = y) ∧
      w.cell? ⟨b, off + i * 2, none⟩ = some (.int k x) ∧ w.cell? ⟨b, off + i * 2 + 1, none⟩ = some (.int k y) ∧ b < w.heap.size := by
  obtain ⟨b, off, ha, hlt, hc⟩ := h (i * 2) (by omega)
  exact ⟨b, off, _, _, ha, Lib.hid rfl, Lib.hid rfl, hc _ (by omega), by rw [Nat.add_assoc]; exact hc _ (by omega), hlt⟩

theorem numCells (l : List Int) : ∀ u ∈ l.map (Value.int k), u.oneCell' = true := by
  intro u hu
  obtain ⟨n, _, rfl⟩ := List.mem_map.1 hu
  rfl
theorem row_of_owns {w : World} {B : Nat} {e : TypeId} {s : Nat} {v : Value} {n : Nat} {xs : List Int} (h : w.ownsRow B e s v n (xs.map (Value.int k))) :
    ∃ a cap, v = .slice a n cap ∧ IsRow k w a xs ∧ (∀ x, a = some x → B ≤ x.block ∧ x.block < w.heap.size ∧ x.off = 0 ∧ x.spot = none) ∧ (a = none → n = 0 ∧ cap = 0) ∧ n ≤ cap ∧ xs.length = n * s := by
  have hl : xs.length = n * s := by have := h.1; simpa using this
  obtain ⟨h1, ⟨rfl, hn⟩ | ⟨g, cap, cur, rfl, hg, hh, hn, hm, hs, ht⟩⟩ := h
  · subst hn
    exact ⟨none, 0, rfl, fun i hi => by omega, fun x hx => (by cases hx), fun _ => ⟨rfl, rfl⟩, Nat.le_refl _, hl⟩
  · have hlt := (Array.getElem?_eq_some_iff.1 hh).1
    refine ⟨some ⟨g, 0, none⟩, cap, rfl, fun i hi => ⟨g, 0, rfl, hlt, fun j hj => ?_⟩, fun x hx => (by cases hx; exact ⟨hg, hlt, rfl, rfl⟩), fun hx => (by cases hx), hn, hl⟩
    have := World.ownsRow.cells (w := w) (base := B) (e := e) (size := s) (n := n) (xs := xs.map (Value.int k)) ⟨h1, .inr ⟨g, cap, cur, rfl, hg, hh, hn, hm, hs, ht⟩⟩ (g := g) rfl j (.int k (xs.getD j 0)) (by
      rw [List.getElem?_map, List.getElem?_eq_getElem hj]; simp [List.getD_eq_getElem?_getD, hj])
    rw [Addr.add_lit] at this
    exact this
theorem row_news {w : World} {ga : Option Addr} {xs : List Int} (h : IsRow k w ga xs) : ∀ ad, ga = some ad → ∀ j u, (xs.map (Value.int k))[j]? = some u → w.cell? (ad.add j) = some u := by
  rintro ad rfl j u hj
  rw [List.getElem?_map] at hj
  cases hx : xs[j]? with
  | none => rw [hx] at hj; cases hj
  | some v =>
    rw [hx] at hj
    have hjl := (List.getElem?_eq_some_iff.1 hx).1
    obtain ⟨b, o, h1, _, hc⟩ := h j hjl
    cases h1
    rw [Addr.add_lit, hc j hjl, List.getD_eq_getElem?_getD, hx]
    exact hj
theorem row_none {w : World} {xs : List Int} (h : IsRow k w none xs) : xs = [] := by
  cases xs with
  | nil => rfl
  | cons x t => obtain ⟨b, o, h1, _⟩ := h 0 (by simp); cases h1
theorem row_cell {w : World} {B g n cap : Nat} {e : TypeId} {xs : List Int} (h : w.ownsRow B e 1 (.slice (some ⟨g, 0, none⟩) n cap) xs.length (xs.map (Value.int k))) {j : Nat} (hj : j < xs.length) :
    (∃ x, Hid (xs.getD j 0 = x) ∧ w.cell? ⟨g, j, none⟩ = some (.int k x)) ∧ w.frozen? ⟨g, j, none⟩ = false ∧
    ∀ y : Int, (w.setCell ⟨g, j, none⟩ (.int k y)).ownsRow B e 1 (.slice (some ⟨g, 0, none⟩) n cap) (xs.set j y).length ((xs.set j y).map (Value.int k)) := by
  have hn : n = xs.length := by
    obtain ⟨_, ⟨hv, _⟩ | ⟨_, _, _, hv, _⟩⟩ := h
    · cases hv
    · cases hv; rfl
  subst hn
  refine ⟨⟨_, Lib.hid rfl, ?_⟩, h.frozenAt j, fun y => ?_⟩
  · rw [h.cellAt j (by omega), List.getElem?_map, List.getElem?_eq_getElem hj]
    simp [List.getD_eq_getElem?_getD, hj]
  · have := h.stored j (.int k y)
    rw [List.length_set, List.map_set]
    exact this.1
def FreshRow (k : IntKind) (t : TypeId) (w : World) (xs : List Int) (e : Ending) (w' : World) : Prop :=
  ∃ v, e = .returned v ∧ w'.ownsRow w.heap.size t 1 v xs.length (xs.map (Value.int k)) ∧ Below w.heap.size w w'
theorem row_take_succ {xs ys : List Int} {k : Nat} (hl : xs.length = ys.length) (hk : k < xs.length) (h : xs.take k = ys.take k) (h2 : xs.getD k 0 = ys.getD k 0) : xs.take (k+1) = ys.take (k+1) := by
  rw [List.take_succ_eq_append_getElem hk, List.take_succ_eq_append_getElem (by omega), h]
  simp [List.getD_eq_getElem?_getD, hk, (by omega : k < ys.length)] at h2
  rw [h2]
end

section
open Go.RowKit

theorem infoR_int64 : (Tryz.prog.info? 2).map (fun i => (i.zero, i.size, i.bytes)) = some (some (.int .i64 0), 1, 8) := by kernel_rfl
theorem Clone_int64 (ga : Option Addr) (gc : Nat) (xs : List Int) (w : World) (hg : IsRow .i64 w ga xs) (hl : xs.length ≤ 100000) :
    Calls Tryz.prog 44 #[.slice ga xs.length gc] w (FreshRow .i64 2 w xs) := by
  have q22 : ∀ (w : World) (a : Option Addr) (n c n' c' : Nat), (binOp .eql 25 (.slice a n c) (.slice none n' c')).run Tryz.prog w = .ok (.bool a.isNone) w := fun w a n c n' c' => Lib.run_eql_slice_nil w _ _ a n c n' c' Tryz.underlying25
  have HG := Lib.hid hg
  clear hg
  cases ga with
  | none =>
    have hx : xs = [] := row_none HG.out
    subst hx
    go_enter Tryz.func44, Tryz.ntmps44
    go_wp2
    go_ret
    exact ⟨_, rfl, World.ownsRow_nil _ _ _ _, Below.refl _ _⟩
  | some a =>
    have HN := Lib.hid (row_news HG.out)
    go_enter Tryz.func44, Tryz.ntmps44
    go_wp2_with (at_builtin; refine wpl_append (.tmp 5) (.tmp 6) 25 2 (.int .i64 0) 1 8 Tryz.underlying25 infoR_int64 rfl (by decide) (by decide) w.heap.size _ 0 [] (some a) xs.length gc (xs.map (Value.int .i64)) (World.ownsRow_made w #[] 0 (Nat.le_refl _) (Nat.zero_le _) rfl) (by simp) (fun h => by cases h) (fun ad h j u hj => Lib.cell?_alloc_some _ (HN.out ad h j u hj)) (numCells _) (by omega) (by simp) rfl rfl rfl rfl ?_; intro v' w1 hown hgrow _)
    go_wp2
    go_ret
    refine ⟨v', rfl, by simpa using hown, ?_⟩
    exact ((Below.refl _ w).alloc (Nat.le_refl _) _).grown hgrow (by simp) (by intro k hk; simp [Value.ownBlock] at hk; omega)

theorem infoR_int : (Tryz.prog.info? 3).map (fun i => (i.zero, i.size, i.bytes)) = some (some (.int .i64 0), 1, 8) := by kernel_rfl
theorem Clone_int (ga : Option Addr) (gc : Nat) (xs : List Int) (w : World) (hg : IsRow .i64 w ga xs) (hl : xs.length ≤ 100000) :
    Calls Tryz.prog 45 #[.slice ga xs.length gc] w (FreshRow .i64 3 w xs) := by
  have q22 : ∀ (w : World) (a : Option Addr) (n c n' c' : Nat), (binOp .eql 26 (.slice a n c) (.slice none n' c')).run Tryz.prog w = .ok (.bool a.isNone) w := fun w a n c n' c' => Lib.run_eql_slice_nil w _ _ a n c n' c' Tryz.underlying26
  have HG := Lib.hid hg
  clear hg
  cases ga with
  | none =>
    have hx : xs = [] := row_none HG.out
    subst hx
    go_enter Tryz.func45, Tryz.ntmps45
    go_wp2
    go_ret
    exact ⟨_, rfl, World.ownsRow_nil _ _ _ _, Below.refl _ _⟩
  | some a =>
    have HN := Lib.hid (row_news HG.out)
    go_enter Tryz.func45, Tryz.ntmps45
    go_wp2_with (at_builtin; refine wpl_append (.tmp 5) (.tmp 6) 26 3 (.int .i64 0) 1 8 Tryz.underlying26 infoR_int rfl (by decide) (by decide) w.heap.size _ 0 [] (some a) xs.length gc (xs.map (Value.int .i64)) (World.ownsRow_made w #[] 0 (Nat.le_refl _) (Nat.zero_le _) rfl) (by simp) (fun h => by cases h) (fun ad h j u hj => Lib.cell?_alloc_some _ (HN.out ad h j u hj)) (numCells _) (by omega) (by simp) rfl rfl rfl rfl ?_; intro v' w1 hown hgrow _)
    go_wp2
    go_ret
    refine ⟨v', rfl, by simpa using hown, ?_⟩
    exact ((Below.refl _ w).alloc (Nat.le_refl _) _).grown hgrow (by simp) (by intro k hk; simp [Value.ownBlock] at hk; omega)

theorem SameKeys_ok (a b : Option Addr) (ca cb : Nat) (xs ys : List Int) (w : World) (ha : IsRow .i64 w a xs) (hb : IsRow .i64 w b ys) (hm : xs.length ≤ 1000000000) :
    Calls Tryz.prog 69 #[.slice a xs.length ca, .slice b ys.length cb] w fun e w' => e = .returned (.bool (decide (xs = ys))) ∧ ∃ n, w' = w.drewN n := by
  by_cases hlen : xs.length = ys.length
  · have hl1 : ((xs.length : Int) != (ys.length : Int)) = false := by simp [hlen]
    have HL := Lib.hid hlen
    clear hlen
    have HA := Lib.hid ha
    have HB := Lib.hid hb
    clear ha hb
    go_enter Tryz.func69, Tryz.ntmps69
    go_wp2
    go_loopg [5] xs.length (fun g i wr => ∃ (k n : Nat), k + g = xs.length ∧ i = .int .i64 k ∧ wr = w.drewN n ∧ xs.take k = ys.take k)
    case atStart => exact ⟨0, 0, by omega, rfl, rfl, by simp⟩
    case round =>
      obtain ⟨k, n, hk, rfl, rfl, ht⟩ := hrel
      have HT := Lib.hid ht
      clear ht
      by_cases hlt : k < xs.length
      · have hlt2 : k < ys.length := by rw [← HL.out]; exact hlt
        obtain ⟨b1, o1, x, rfl, hx, h1, _⟩ := HA.out.get hlt
        obtain ⟨b2, o2, y, rfl, hy, h2, _⟩ := HB.out.get hlt2
        by_cases heq : x = y
        · have he : (x != y) = false := by simpa using heq
          have HE := Lib.hid heq
          clear heq
          go_wp2
          go_quiet (fail)
          go_wp2
          go_roundg (gk - 1)
          case measure => omega
          case rel => exact ⟨k + 1, n + nq, by omega, by go_num, by simp, row_take_succ HL.out hlt HT.out (hx.out.trans (HE.out.trans hy.out.symm))⟩
        · have he : (x != y) = true := by simpa using heq
          have HE := Lib.hid heq
          clear heq
          go_wp2
          go_quiet (fail)
          go_wp2
          go_ret
          exact ⟨by have : xs ≠ ys := fun h => HE.out (by rw [← hx.out, ← hy.out, h])
                    simp [this], _, World.drewN_drewN _ _ _⟩
      · go_wp2
        go_ret
        have hk2 : k = xs.length := by omega
        have hxy : xs = ys := by
          have := HT.out
          rw [hk2, List.take_length, HL.out, List.take_length] at this
          exact this
        exact ⟨by simp [hxy], _, rfl⟩
  · have hl1 : ((xs.length : Int) != (ys.length : Int)) = true := by simp; omega
    have hxy : xs ≠ ys := fun h => hlen (by rw [h])
    have HX := Lib.hid hxy
    clear ha hb hlen hxy
    go_enter Tryz.func69, Tryz.ntmps69
    go_wp2
    go_ret
    exact ⟨by simp [HX.out], 0, rfl⟩

theorem SameNums_ok (a b : Option Addr) (ca cb : Nat) (xs ys : List Int) (w : World) (ha : IsRow .i64 w a xs) (hb : IsRow .i64 w b ys) (hm : xs.length ≤ 1000000000) :
    Calls Tryz.prog 70 #[.slice a xs.length ca, .slice b ys.length cb] w fun e w' => e = .returned (.bool (decide (xs = ys))) ∧ ∃ n, w' = w.drewN n := by
  by_cases hlen : xs.length = ys.length
  · have hl1 : ((xs.length : Int) != (ys.length : Int)) = false := by simp [hlen]
    have HL := Lib.hid hlen
    clear hlen
    have HA := Lib.hid ha
    have HB := Lib.hid hb
    clear ha hb
    go_enter Tryz.func70, Tryz.ntmps70
    go_wp2
    go_loopg [5] xs.length (fun g i wr => ∃ (k n : Nat), k + g = xs.length ∧ i = .int .i64 k ∧ wr = w.drewN n ∧ xs.take k = ys.take k)
    case atStart => exact ⟨0, 0, by omega, rfl, rfl, by simp⟩
    case round =>
      obtain ⟨k, n, hk, rfl, rfl, ht⟩ := hrel
      have HT := Lib.hid ht
      clear ht
      by_cases hlt : k < xs.length
      · have hlt2 : k < ys.length := by rw [← HL.out]; exact hlt
        obtain ⟨b1, o1, x, rfl, hx, h1, _⟩ := HA.out.get hlt
        obtain ⟨b2, o2, y, rfl, hy, h2, _⟩ := HB.out.get hlt2
        by_cases heq : x = y
        · have he : (x != y) = false := by simpa using heq
          have HE := Lib.hid heq
          clear heq
          go_wp2
          go_quiet (fail)
          go_wp2
          go_roundg (gk - 1)
          case measure => omega
          case rel => exact ⟨k + 1, n + nq, by omega, by go_num, by simp, row_take_succ HL.out hlt HT.out (hx.out.trans (HE.out.trans hy.out.symm))⟩
        · have he : (x != y) = true := by simpa using heq
          have HE := Lib.hid heq
          clear heq
          go_wp2
          go_quiet (fail)
          go_wp2
          go_ret
          exact ⟨by have : xs ≠ ys := fun h => HE.out (by rw [← hx.out, ← hy.out, h])
                    simp [this], _, World.drewN_drewN _ _ _⟩
      · go_wp2
        go_ret
        have hk2 : k = xs.length := by omega
        have hxy : xs = ys := by
          have := HT.out
          rw [hk2, List.take_length, HL.out, List.take_length] at this
          exact this
        exact ⟨by simp [hxy], _, rfl⟩
  · have hl1 : ((xs.length : Int) != (ys.length : Int)) = true := by simp; omega
    have hxy : xs ≠ ys := fun h => hlen (by rw [h])
    have HX := Lib.hid hxy
    clear ha hb hlen hxy
    go_enter Tryz.func70, Tryz.ntmps70
    go_wp2
    go_ret
    exact ⟨by simp [HX.out], 0, rfl⟩
end
end Go.Proofs.YtjhpblejlchhjaaGreat
