/- Merged: VebPlain, VebPos, Flat, IdxPlain, IdxTwin, IdxFns, IdxTree, IdxLeaf, Tree18, VebRef, VebLaid, VebTab, IdxNodes, IdxRead, IdxAll, Built18, Build18, RowEq, IdxSame, BuildIx, BuildIxs. -/
import Derived.Test.YtjhpblejlchhjaaGreatHeapH
import Derived.Test.YtjhpblejlchhjaaGreatRowAll
import Derived.Test.YtjhpblejlchhjaaGreatInvFc
import Derived.Test.YtjhpblejlchhjaaGreatMLS
import Derived.Test.YtjhpblejlchhjaaGreatPrsAll
import Derived.Test.YtjhpblejlchhjaaGreatSeekAll
import Derived.Test.YtjhpblejlchhjaaGreatOfMy
import Derived.Test.YtjhpblejlchhjaaGreatBitFits
import Derived.Test.YtjhpblejlchhjaaGreatInvL
namespace Go.Proofs.YtjhpblejlchhjaaGreat
set_option maxRecDepth 100000
set_option maxHeartbeats 4000000
set_option linter.unusedVariables false
set_option linter.unusedSimpArgs false
section

def lay (L r : Nat) : List Nat :=
  if h : L ≤ 1 then [r] else lay (L / 2) r ++ (List.range (2 ^ (L / 2))).flatMap fun i => lay (L - L / 2) (r * 2 ^ (L / 2) + i)
termination_by L
decreasing_by all_goals omega

end

section

end

section
open Go.RowKit

variable {a b c a' b' c' : Nat → Int} {M i : Nat} {v : Int}
theorem own_set {k : IntKind} {w : World} {B g n cap s : Nat} {e : TypeId} {xs : List Int} (h : w.ownsRow B e s (.slice (some ⟨g, 0, none⟩) n cap) n (xs.map (Value.int k))) (j : Nat) (y : Int) :
    (w.setCell ⟨g, j, none⟩ (.int k y)).ownsRow B e s (.slice (some ⟨g, 0, none⟩) n cap) n ((xs.set j y).map (Value.int k)) := by
  have := (h.stored j (.int k y)).1
  rw [List.map_set]
  exact this
end

section
open Go.RowKit

def ixFit (l : Int) (ms cs : List Int) : Prop := 1 ≤ l ∧ l ≤ 14 ∧ ms.length = 2 ^ l.toNat - 1 ∧ cs.length = 2 ^ l.toNat - 1
instance (l : Int) (ms cs : List Int) : Decidable (ixFit l ms cs) := by unfold ixFit; infer_instance
end

section
open Go.RowKit

end

section
open Go.RowKit

end

section
open Go.RowKit

end

section
open Go.RowKit

end

section
open Go.RowKit Go.Shelf
attribute [local go_sem] Oper.semAt_some

end

section
open Go.RowKit

end

section
open Go.RowKit

end

section
open Go.RowKit

end

section
open Go.RowKit

end

section
open Go.RowKit

end

section
open Go.RowKit

end

section
open Go.RowKit Go.Shelf
attribute [local go_sem] Oper.semAt_some

theorem wp_make {P : Program} {w : World} {o : Oper} {a : Act} {K : Act → World → Prop} {Q : Exit → Act → World → Prop} (l c : Operand) (t e : TypeId) (z : Value) (size bytes : Nat)
    (ht : P.underlying t = some (.slice e)) (hinfo : (P.info? e).map (fun i => (i.zero, i.size, i.bytes)) = some (some z, size, bytes)) (hbytes : bytes ≤ 1024)
    (B n : Nat) (N : Int) (hN : N = n) (hlen : n ≤ 4294967296) (hbase : B ≤ w.heap.size)
    (ho : o.op = Op.makeSlice t l c) (hl : a.eval l = .int .i64 N) (hc : a.eval c = .int .i64 N)
    (h : ∀ g w', w.heap.size ≤ g → w'.ownsRow B e size (.slice (some ⟨g, 0, none⟩) n n) n (madeCells z.cells (n * size)).toList → Below w.heap.size w w' → K (a.put o.dst (.slice (some ⟨g, 0, none⟩) n n)) w') :
    Oper.wp P o a w K Q := by
  obtain ⟨i0, hi, hz0, hz1, hz2⟩ := info_parts hinfo
  obtain ⟨w', hrun, r1, r2⟩ := run_make_full (P := P) w B t e i0 z size ht hi hz0 hz1 .i64 .i64 n (by rw [hz2]; exact Nat.le_trans (Nat.mul_le_mul hbytes hlen) (by decide)) (by unfold maxLen; omega) hbase
  subst hN
  unfold Oper.wp
  simp [execOp, ho, hl, hc, hrun, Result.andThen]
  exact h w.heap.size w' (Nat.le_refl _) r1 ((Below.refl _ _).grown r2 (Nat.le_refl _) (fun k hk => by cases hk))
end

section
open Go.RowKit Go.Shelf
attribute [local go_sem] Oper.semAt_some

end

section
open Go.RowKit

theorem Equal_int64 (a b : Option Addr) (ca cb : Nat) (xs ys : List Int) (w : World) (ha : IsRow .i64 w a xs) (hb : IsRow .i64 w b ys) (hm : xs.length ≤ 1000000000) :
    Calls Tryz.prog 66 #[.slice a xs.length ca, .slice b ys.length cb] w fun e w' => e = .returned (.bool (decide (xs = ys))) ∧ ∃ n, w' = w.drewN n := by
  by_cases hlen : xs.length = ys.length
  · have hl1 : ((xs.length : Int) != (ys.length : Int)) = false := by simp [hlen]
    have HL := Lib.hid hlen
    clear hlen
    have HA := Lib.hid ha
    have HB := Lib.hid hb
    clear ha hb
    go_enter Tryz.func66, Tryz.ntmps66
    go_wp2
    go_loopg [13] xs.length (fun g i wr => ∃ (k n : Nat), k + g = xs.length ∧ i = .int .i64 k ∧ wr = w.drewN n ∧ xs.take k = ys.take k)
    case atStart => exact ⟨0, 0, by omega, rfl, rfl, by simp⟩
    case round =>
      obtain ⟨k, n, hk, rfl, rfl, ht⟩ := hrel
      have HT := Lib.hid ht
      clear ht
      by_cases hlt : k < xs.length
      · have hlt2 : k < ys.length := by rw [← HL.out]; exact hlt
        obtain ⟨b1, o1, x, rfl, hx, h1, _⟩ := HA.out.get hlt
        obtain ⟨b2, o2, y, rfl, hy, h2, _⟩ := HB.out.get hlt2
        by_cases heq : x = y
        · have he : (x != y) = false := by simpa using heq
          have HE := Lib.hid heq
          clear heq
          go_wp2
          go_quiet (fail)
          go_wp2
          go_roundg (gk - 1)
          case measure => omega
          case rel => exact ⟨k + 1, n + nq, by omega, by go_num, by simp, row_take_succ HL.out hlt HT.out (hx.out.trans (HE.out.trans hy.out.symm))⟩
        · have he : (x != y) = true := by simpa using heq
          have HE := Lib.hid heq
          clear heq
          go_wp2
          go_quiet (fail)
          go_wp2
          go_ret
          exact ⟨by have : xs ≠ ys := fun h => HE.out (by rw [← hx.out, ← hy.out, h])
                    simp [this], _, World.drewN_drewN _ _ _⟩
      · go_wp2
        go_ret
        have hk2 : k = xs.length := by omega
        have hxy : xs = ys := by
          have := HT.out
          rw [hk2, List.take_length, HL.out, List.take_length] at this
          exact this
        exact ⟨by simp [hxy], _, rfl⟩
  · have hl1 : ((xs.length : Int) != (ys.length : Int)) = true := by simp; omega
    have hxy : xs ≠ ys := fun h => hlen (by rw [h])
    have HX := Lib.hid hxy
    clear ha hb hlen hxy
    go_enter Tryz.func66, Tryz.ntmps66
    go_wp2
    go_ret
    exact ⟨by simp [HX.out], 0, rfl⟩

theorem Equal_int (a b : Option Addr) (ca cb : Nat) (xs ys : List Int) (w : World) (ha : IsRow .i64 w a xs) (hb : IsRow .i64 w b ys) (hm : xs.length ≤ 1000000000) :
    Calls Tryz.prog 67 #[.slice a xs.length ca, .slice b ys.length cb] w fun e w' => e = .returned (.bool (decide (xs = ys))) ∧ ∃ n, w' = w.drewN n := by
  by_cases hlen : xs.length = ys.length
  · have hl1 : ((xs.length : Int) != (ys.length : Int)) = false := by simp [hlen]
    have HL := Lib.hid hlen
    clear hlen
    have HA := Lib.hid ha
    have HB := Lib.hid hb
    clear ha hb
    go_enter Tryz.func67, Tryz.ntmps67
    go_wp2
    go_loopg [13] xs.length (fun g i wr => ∃ (k n : Nat), k + g = xs.length ∧ i = .int .i64 k ∧ wr = w.drewN n ∧ xs.take k = ys.take k)
    case atStart => exact ⟨0, 0, by omega, rfl, rfl, by simp⟩
    case round =>
      obtain ⟨k, n, hk, rfl, rfl, ht⟩ := hrel
      have HT := Lib.hid ht
      clear ht
      by_cases hlt : k < xs.length
      · have hlt2 : k < ys.length := by rw [← HL.out]; exact hlt
        obtain ⟨b1, o1, x, rfl, hx, h1, _⟩ := HA.out.get hlt
        obtain ⟨b2, o2, y, rfl, hy, h2, _⟩ := HB.out.get hlt2
        by_cases heq : x = y
        · have he : (x != y) = false := by simpa using heq
          have HE := Lib.hid heq
          clear heq
          go_wp2
          go_quiet (fail)
          go_wp2
          go_roundg (gk - 1)
          case measure => omega
          case rel => exact ⟨k + 1, n + nq, by omega, by go_num, by simp, row_take_succ HL.out hlt HT.out (hx.out.trans (HE.out.trans hy.out.symm))⟩
        · have he : (x != y) = true := by simpa using heq
          have HE := Lib.hid heq
          clear heq
          go_wp2
          go_quiet (fail)
          go_wp2
          go_ret
          exact ⟨by have : xs ≠ ys := fun h => HE.out (by rw [← hx.out, ← hy.out, h])
                    simp [this], _, World.drewN_drewN _ _ _⟩
      · go_wp2
        go_ret
        have hk2 : k = xs.length := by omega
        have hxy : xs = ys := by
          have := HT.out
          rw [hk2, List.take_length, HL.out, List.take_length] at this
          exact this
        exact ⟨by simp [hxy], _, rfl⟩
  · have hl1 : ((xs.length : Int) != (ys.length : Int)) = true := by simp; omega
    have hxy : xs ≠ ys := fun h => hlen (by rw [h])
    have HX := Lib.hid hxy
    clear ha hb hlen hxy
    go_enter Tryz.func67, Tryz.ntmps67
    go_wp2
    go_ret
    exact ⟨by simp [HX.out], 0, rfl⟩
end

section
open Go.RowKit

end

section
open Go.RowKit Go.Shelf
attribute [local go_sem] Oper.semAt_some

structure FactR (R : World → World → Prop) where
  holds : Value → World → Prop
  stays : ∀ v w w', R w w' → holds v w → holds v w'
def FactR.any (R : World → World → Prop) : FactR R := ⟨fun _ _ => True, fun _ _ _ _ _ => trivial⟩
def FactR.is {R : World → World → Prop} (x : Value) : FactR R := ⟨fun v _ => v = x, fun _ _ _ _ h => h⟩
def factRAt {R : World → World → Prop} (fs : List (FactR R)) (k : Nat) (v : Value) (w : World) : Prop := (fs.getD k (FactR.any R)).holds v w
theorem factRAt_stays {R : World → World → Prop} (fs : List (FactR R)) (k : Nat) (v : Value) (w w' : World) (h : R w w') : factRAt fs k v w → factRAt fs k v w' := (fs.getD k (FactR.any R)).stays _ _ _ h
end

section
open Go.RowKit Go.Shelf
attribute [local go_sem] Oper.semAt_some

end
end Go.Proofs.YtjhpblejlchhjaaGreat
