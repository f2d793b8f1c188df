/- Merged: OccP, Occ, OccCnt. -/
import Derived.Test.YtjhpblejlchhjaaGreatBitsSl
import Derived.Test.YtjhpblejlchhjaaGreatBitFits
import Derived.Test.YtjhpblejlchhjaaGreatRowAll
import Derived.Test.YtjhpblejlchhjaaGreatRange
import Derived.Sort.LoopGhostIn
import Derived.Test.YtjhpblejlchhjaaGreatMLS
import Derived.Test.YtjhpblejlchhjaaGreatInvL
namespace Go.Proofs.YtjhpblejlchhjaaGreat
set_option maxRecDepth 100000
set_option maxHeartbeats 4000000
set_option linter.unusedVariables false
set_option linter.unusedSimpArgs false
section
open Go.RowKit

def cutA (ws : List Int) (a k : Nat) : Int := if 64 * k < a then cutLo (ws.getD k 0) (a - 64 * k) else ws.getD k 0
def cutV (ws : List Int) (a b k : Nat) : Int := if b < 64 * k + 64 then cutHi (cutA ws a k) (64 * k + 64 - b) else cutA ws a k
theorem cutA_bd {ws : List Int} (h : U64s ws) (a k : Nat) : 0 ≤ cutA ws a k ∧ cutA ws a k < 18446744073709551616 := by
  have := h.get k
  unfold cutA
  split
  · have := cutLo_bd (x := ws.getD k 0) (by omega) (a - 64 * k)
    omega
  · exact this
theorem cutV_bd {ws : List Int} (h : U64s ws) {a b k : Nat} (hb : 64 * k ≤ b) : 0 ≤ cutV ws a b k ∧ cutV ws a b k < 18446744073709551616 := by
  have := cutA_bd h a k
  unfold cutV
  split
  · exact cutHi_bd this.1 this.2 (by omega)
  · exact this
theorem bitW_at (ws : List Int) (k : Nat) {j : Nat} (hj : j < 64) : bitW ws (64 * k + j) = bitI (ws.getD k 0) j := by
  rw [bitW, show (64 * k + j) / 64 = k by omega, show (64 * k + j) % 64 = j by omega]
def inW (ws : List Int) (a b i : Nat) : Bool := bitW ws i && (decide (a ≤ i) && decide (i < b))
theorem cutV_bit {ws : List Int} (h : U64s ws) {a b k j : Nat} (hb : 64 * k ≤ b) (hj : j < 64) : bitI (cutV ws a b k) j = inW ws a b (64 * k + j) := by
  have h1 := h.get k
  have h2 := cutA_bd h a k
  have e1 : bitI (cutA ws a k) j = (bitW ws (64 * k + j) && decide (a ≤ 64 * k + j)) := by
    rw [bitW_at ws k hj]
    unfold cutA
    split
    · rw [cutLo_bit h1.1]
      congr 1
      rw [decide_eq_decide]
      omega
    · rw [decide_eq_true (by omega), Bool.and_true]
  unfold cutV inW
  split
  · rw [cutHi_bit h2.1 (by omega), e1, Bool.and_assoc]
    congr 2
    rw [decide_eq_decide]
    omega
  · rw [e1, decide_eq_true (by omega : 64 * k + j < b), Bool.and_true]
theorem popI_cutV {ws : List Int} (h : U64s ws) {a b k : Nat} (hb : 64 * k ≤ b) : popI (cutV ws a b k) = (List.range 64).countP fun j => inW ws a b (64 * k + j) := by
  unfold popI
  apply List.countP_congr
  intro j hj
  rw [List.mem_range] at hj
  rw [cutV_bit h hb hj]
def cntP (ws : List Int) (a b m : Nat) : Nat := ((List.range' (a / 64) m).map fun k => popI (cutV ws a b k)).sum
theorem cntP_zero (ws : List Int) (a b : Nat) : cntP ws a b 0 = 0 := rfl
theorem cntP_succ (ws : List Int) (a b m : Nat) : cntP ws a b (m + 1) = cntP ws a b m + popI (cutV ws a b (a / 64 + m)) := by
  unfold cntP
  rw [List.range'_concat, List.map_append, List.sum_append]
  simp
theorem cnt_blocks (g : Nat → Bool) (s : Nat) (hs : ∀ i, i < 64 * s → g i = false) : ∀ m, (List.range (64 * (s + m))).countP g = ((List.range' s m).map fun k => (List.range 64).countP fun j => g (64 * k + j)).sum := by
  intro m
  induction m with
  | zero =>
    simp only [Nat.add_zero, List.range'_zero, List.map_nil, List.sum_nil]
    rw [List.countP_eq_zero]
    intro i hi
    rw [List.mem_range] at hi
    simp [hs i hi]
  | succ m ih =>
    rw [show 64 * (s + (m + 1)) = 64 * (s + m) + 64 by omega, List.range_add, List.countP_append, ih, List.range'_concat, List.map_append, List.sum_append, List.countP_map]
    simp only [List.map_cons, List.map_nil, List.sum_cons, List.sum_nil, Nat.add_zero, Nat.one_mul]
    rfl
theorem cnt_in (ws : List Int) {a b n : Nat} (h1 : a ≤ b) (h2 : b ≤ n) : (List.range n).countP (inW ws a b) = cntW ws a b := by
  have e : List.range n = List.range' 0 a ++ (List.range' a (b - a) ++ List.range' b (n - b)) := by
    have e1 := List.range'_append (s := a) (m := b - a) (n := n - b) (step := 1)
    have e2 := List.range'_append (s := 0) (m := a) (n := n - a) (step := 1)
    simp only [Nat.one_mul, Nat.zero_add] at e1 e2
    rw [show a + (b - a) = b by omega, show b - a + (n - b) = n - a by omega] at e1
    rw [show a + (n - a) = n by omega] at e2
    rw [e1, e2, List.range_eq_range']
  rw [e, List.countP_append, List.countP_append]
  have z1 : (List.range' 0 a).countP (inW ws a b) = 0 := by
    rw [List.countP_eq_zero]
    intro i hi
    have := List.mem_range'_1.1 hi
    simp [inW, show ¬ a ≤ i by omega]
  have z2 : (List.range' b (n - b)).countP (inW ws a b) = 0 := by
    rw [List.countP_eq_zero]
    intro i hi
    have := List.mem_range'_1.1 hi
    simp [inW, show ¬ i < b by omega]
  have z3 : (List.range' a (b - a)).countP (inW ws a b) = cntW ws a b := by
    apply List.countP_congr
    intro i hi
    have := List.mem_range'_1.1 hi
    simp [inW, show a ≤ i by omega, show i < b by omega]
  omega
theorem cntP_all {ws : List Int} (h : U64s ws) {a b : Nat} (hab : a ≤ b) : cntP ws a b ((b + 63) / 64 - a / 64) = cntW ws a b := by
  rw [← cnt_in ws hab (show b ≤ 64 * (a / 64 + ((b + 63) / 64 - a / 64)) by omega), cnt_blocks (inW ws a b) (a / 64) (fun i hi => by simp [inW, show ¬ a ≤ i by omega]), cntP]
  congr 1
  apply List.map_congr_left
  intro k hk
  have := List.mem_range'_1.1 hk
  exact popI_cutV h (by omega)
theorem cntP_le {ws : List Int} (a b m : Nat) : cntP ws a b m ≤ 64 * m := by
  induction m with
  | zero => rw [cntP_zero]; omega
  | succ m ih => rw [cntP_succ]; have := popI_le (cutV ws a b (a / 64 + m)); omega
def partsL (ws : List Int) (a b : Nat) : List (Array Value) := (List.range' (a / 64) ((b + 63) / 64 - a / 64)).map fun k => #[.int .i64 ((64 * k : Nat) : Int), .int .u64 (cutV ws a b k)]
theorem partsL_length (ws : List Int) (a b : Nat) : (partsL ws a b).length = (b + 63) / 64 - a / 64 := by simp [partsL]
theorem partsL_get (ws : List Int) {a b k : Nat} (h : k < (b + 63) / 64 - a / 64) : (partsL ws a b).getD k #[] = #[.int .i64 ((64 * (a / 64 + k) : Nat) : Int), .int .u64 (cutV ws a b (a / 64 + k))] := by
  rw [List.getD_eq_getElem?_getD, partsL, List.getElem?_map, List.getElem?_eq_getElem (by simpa using h)]
  simp
theorem plsW_nil (ws : List Int) (a : Nat) : plsW ws a a = [] := by simp [plsW]
theorem plsW_succ {ws : List Int} {a b : Nat} (h : a ≤ b) : plsW ws a (b + 1) = plsW ws a b ++ if bitW ws b = true then [b] else [] := by
  unfold plsW
  rw [show b + 1 - a = b - a + 1 by omega, List.range'_concat, List.filter_append]
  congr 1
  rw [show a + 1 * (b - a) = b by omega]
  simp [List.filter_cons]
theorem plsW_none {ws : List Int} {a b : Nat} (h : b ≤ a) : plsW ws a b = [] := by simp [plsW, show b - a = 0 by omega]
theorem cntW_none {ws : List Int} {a b : Nat} (h : b ≤ a) : cntW ws a b = 0 := by simp [cntW, show b - a = 0 by omega]
theorem wMayB_iff {ws : List Int} (hu : U64s ws) {n : Nat} (hl : ws.length = (n + 63) / 64) : wMayB ws n = true ↔ n % 64 = 0 ∨ ws.getD (ws.length - 1) 0 / 2 ^ (n % 64) = 0 := by
  have hg := hu.get (ws.length - 1)
  unfold wMayB
  rw [decide_eq_true hl, Bool.true_and, List.all_eq_true]
  constructor
  · intro h
    by_cases h0 : n % 64 = 0
    · exact .inl h0
    · right
      rw [shr_zero hg.1]
      intro i hi
      by_cases h64 : i < 64
      · have := h (64 * (ws.length - 1) + i) (List.mem_range'_1.2 (by omega))
        rw [bitW_at _ _ h64] at this
        simpa using this
      · exact bitI_high hg.2 (by omega)
  · rintro h i hi
    have hi := List.mem_range'_1.1 hi
    rcases h with h | h
    · omega
    · rw [shr_zero hg.1] at h
      have := h (i % 64) (by omega)
      rw [bitW, show i / 64 = ws.length - 1 by omega, this]
      rfl
end

section
open Go.RowKit Go.Shelf
attribute [local go_sem] Oper.semAt_some

theorem occCheck_ok (wa : Option Addr) (wc : Nat) (ws : List Int) (hu : U64s ws) (n : Nat) (hn : n ≤ 65536) (hl : ws.length ≤ 1000000000000) (w : World) (hw : IsRow .u64 w wa ws) :
    Calls Tryz.prog 84 #[.slice wa ws.length wc, .int .i64 n] w fun e w' => e = .returned (.int .i64 (if wMayB ws n = true then 0 else 8)) ∧ w = w' := by
  by_cases c1 : ws.length = (n + 63) / 64
  · have hi := wMayB_iff hu c1
    have e1 : ((ws.length : Int) != ((n : Int) + 64 - 1) / 64) = false := by simp; omega
    by_cases c2 : n % 64 = 0
    · have e : wMayB ws n = true := hi.2 (.inl c2)
      rw [if_pos e]
      have hr : (n : Int) % 64 = 0 := by omega
      have hd : ((n : Int) + 64 - 1) / 64 = (ws.length : Int) := by omega
      generalize ws.length = m at *
      clear hi e c1
      go_enter Tryz.func84, Tryz.ntmps84
      go_wp2
      go_ret
      exact ⟨rfl, rfl⟩
    · obtain ⟨b, off, x, rfl, hx, hc, -⟩ := hw.get (i := ws.length - 1) (by omega)
      have hg := hu.get (ws.length - 1)
      rw [hx.out] at hi hg
      obtain ⟨r, hr⟩ : ∃ r, n % 64 = r := ⟨_, rfl⟩
      rw [hr] at hi c2
      have hrI : (n : Int) % 64 = (r : Int) := by omega
      have hr64 : r < 64 := by omega
      have hr0 : 0 < r := by omega
      have hd : ((n : Int) + 64 - 1) / 64 = (ws.length : Int) := by omega
      have hm0 : 0 < ws.length := by omega
      obtain ⟨q, hq⟩ : ∃ q, x / 2 ^ r = q := ⟨_, rfl⟩
      rw [hq] at hi
      by_cases c3 : q = 0
      · have e : wMayB ws n = true := hi.2 (.inr c3)
        rw [if_pos e]
        subst c3
        generalize ws.length = m at *
        obtain ⟨m', rfl⟩ : ∃ m', m = m' + 1 := ⟨m - 1, by omega⟩
        rw [Nat.add_sub_cancel] at hc
        clear hi e c1 hu hw hx
        go_enter Tryz.func84, Tryz.ntmps84
        go_wp2
        go_ret
        exact ⟨rfl, rfl⟩
      · have e : ¬ wMayB ws n = true := fun h => by rcases hi.1 h with h | h <;> omega
        rw [if_neg e]
        have hq2 : (q != 0) = true := by simpa using c3
        generalize ws.length = m at *
        obtain ⟨m', rfl⟩ : ∃ m', m = m' + 1 := ⟨m - 1, by omega⟩
        rw [Nat.add_sub_cancel] at hc
        clear hi e c1 hu hw hx
        go_enter Tryz.func84, Tryz.ntmps84
        go_wp2
        go_ret
        exact ⟨rfl, rfl⟩
  · have e : ¬ wMayB ws n = true := by simp [wMayB, c1]
    rw [if_neg e]
    have hd : ((ws.length : Int) != ((n : Int) + 64 - 1) / 64) = true := by simp; omega
    generalize ws.length = m at *
    clear e
    go_enter Tryz.func84, Tryz.ntmps84
    go_wp2
    go_ret
    exact ⟨rfl, rfl⟩
theorem asked_ok (wa : Option Addr) (wc : Nat) (ws : List Int) (hu : U64s ws) (n : Nat) (hn : n ≤ 65536) (hl : ws.length ≤ 1000000000000) (hmay : wMayB ws n = true) (w : World) (hw : IsRow .u64 w wa ws) :
    Calls Tryz.prog 102 #[.slice wa ws.length wc, .int .i64 n, .bool true] w fun e w' => e = .returned (.int .i64 0) ∧ w = w' := by
  have CK := Lib.hid (fun w hw => occCheck_ok wa wc ws hu n hn hl w hw)
  rw [if_pos hmay] at CK
  have HW := Lib.hid hw
  generalize ws.length = m at *
  clear hw hmay
  go_enter Tryz.func102, Tryz.ntmps102
  go_wp2_with (go_at_call 84; refine (CK.out _ HW.out).mono ?_; rintro e w' ⟨rfl, rfl⟩)
  go_ret
  exact ⟨rfl, rfl⟩
theorem cut_ok (wa : Option Addr) (wc : Nat) (ws : List Int) (hu : U64s ws) (a b k : Nat) (hk : k < ws.length) (ha : a < 64 * k + 64) (hb : 64 * k < b) (hbb : b ≤ 65536) (w : World) (hw : IsRow .u64 w wa ws) (b1 b2 b3 : Nat)
    (c1 : w.cell? ⟨b1, 0, none⟩ = some (.slice wa ws.length wc)) (c2 : w.cell? ⟨b2, 0, none⟩ = some (.int .i64 a)) (c3 : w.cell? ⟨b3, 0, none⟩ = some (.int .i64 b)) :
    Calls Tryz.prog 117 #[.int .i64 k, .pointer (some ⟨b1, 0, none⟩), .pointer (some ⟨b2, 0, none⟩), .pointer (some ⟨b3, 0, none⟩)] w fun e w' => e = .returned (.int .u64 (cutV ws a b k)) ∧ w = w' := by
  have hg := hu.get k
  have hA := cutA_bd hu a k
  obtain ⟨bb, off, x, rfl, hx, hc, -⟩ := hw.get hk
  have hV : cutV ws a b k = if b < 64 * k + 64 then cutHi (cutA ws a k) (64 * k + 64 - b) else cutA ws a k := rfl
  have hAd : cutA ws a k = if 64 * k < a then cutLo x (a - 64 * k) else x := by unfold cutA; rw [hx.out]
  rw [hx.out] at hg
  obtain ⟨y, hy⟩ : ∃ y, cutA ws a k = y := ⟨_, rfl⟩
  obtain ⟨z, hz⟩ : ∃ z, cutV ws a b k = z := ⟨_, rfl⟩
  rw [hy] at hA hV hAd
  rw [hz] at hV ⊢
  generalize ws.length = m at *
  have HX := Lib.hid hx
  clear hx hw hu hy hz
  by_cases q1 : 64 * k < a
  · rw [if_pos q1] at hAd
    obtain ⟨lo, hlo⟩ : ∃ lo, a - 64 * k = lo := ⟨_, rfl⟩
    have hloI : (a : Int) - (k : Int) * 64 = (lo : Int) := by omega
    have hlo64 : lo < 64 := by omega
    have hlo0 : 0 < lo := by omega
    rw [hlo] at hAd
    have hbd := cutLo_bd hg.1 lo
    rw [← hAd] at hbd
    have hyw : IntKind.u64.wrap (x / 2 ^ lo * 2 ^ lo) = y := by rw [hAd] at hA ⊢; unfold cutLo at hA ⊢; rw [IntKind.wrap_u64]; omega
    by_cases q2 : b < 64 * k + 64
    · rw [if_pos q2] at hV
      obtain ⟨hi, hhi⟩ : ∃ hi, 64 * k + 64 - b = hi := ⟨_, rfl⟩
      have hhiI : ((k : Int) + 1) * 64 - (b : Int) = (hi : Int) := by omega
      have hhi64 : hi < 64 := by omega
      have hhi0 : 0 < hi := by omega
      rw [hhi] at hV
      have hzw : IntKind.u64.wrap (y * 2 ^ hi) / 2 ^ hi = z := by rw [hV, IntKind.wrap_u64]; rfl
      clear hAd hV hbd hlo hhi
      go_enter Tryz.func117, Tryz.ntmps117
      go_wp2
      go_ret
      exact ⟨by rw [← hzw]; rfl, rfl⟩
    · rw [if_neg q2] at hV
      have hhiI : ((k : Int) + 1) * 64 - (b : Int) ≤ 0 := by omega
      clear hAd hbd hlo
      subst hV
      go_enter Tryz.func117, Tryz.ntmps117
      go_wp2
      go_ret
      exact ⟨rfl, rfl⟩
  · rw [if_neg q1] at hAd
    subst hAd
    have hloI : (a : Int) - (k : Int) * 64 ≤ 0 := by omega
    by_cases q2 : b < 64 * k + 64
    · rw [if_pos q2] at hV
      obtain ⟨hi, hhi⟩ : ∃ hi, 64 * k + 64 - b = hi := ⟨_, rfl⟩
      have hhiI : ((k : Int) + 1) * 64 - (b : Int) = (hi : Int) := by omega
      have hhi64 : hi < 64 := by omega
      have hhi0 : 0 < hi := by omega
      rw [hhi] at hV
      have hzw : IntKind.u64.wrap (y * 2 ^ hi) / 2 ^ hi = z := by rw [hV, IntKind.wrap_u64]; rfl
      clear hV hhi
      go_enter Tryz.func117, Tryz.ntmps117
      go_wp2
      go_ret
      exact ⟨by rw [← hzw]; rfl, rfl⟩
    · rw [if_neg q2] at hV
      have hhiI : ((k : Int) + 1) * 64 - (b : Int) ≤ 0 := by omega
      subst hV
      go_enter Tryz.func117, Tryz.ntmps117
      go_wp2
      go_ret
      exact ⟨rfl, rfl⟩

def KpS (S : Nat → Prop) (W W' : World) : Prop := ∀ k, S k → W'.heap[k]? = W.heap[k]?
theorem KpS.cell {S : Nat → Prop} {W W' : World} (h : KpS S W W') {a : Addr} {v : Value} (ha : S a.block) (hc : W.cell? a = some v) : W'.cell? a = some v := by
  rw [World.cell?_of_block (w := W) (h _ ha)]; exact hc
theorem KpS.row {S : Nat → Prop} {W W' : World} (h : KpS S W W') {k : IntKind} {a : Option Addr} {xs : List Int} (ha : ∀ x, a = some x → 0 < xs.length → S x.block) (hr : IsRow k W a xs) : IsRow k W' a xs := by
  intro i hi
  obtain ⟨b, off, rfl, hlt, hc⟩ := hr i hi
  have hb : S b := ha ⟨b, off, none⟩ rfl (by omega)
  refine ⟨b, off, rfl, ?_, fun j hj => h.cell (a := ⟨b, off + j, none⟩) hb (hc j hj)⟩
  exact World.block_lt_of_cell? _ _ (h.cell (a := ⟨b, off + i, none⟩) hb (hc i hi))

theorem parts1_iter (wa : Option Addr) (wc : Nat) (ws : List Int) (hu : U64s ws) (a b : Nat) (hab : a ≤ b) (hbb : b ≤ 65536) (hl : b ≤ 64 * ws.length) (hl2 : ws.length ≤ 1000000000000) (S : Nat → Prop) (b1 b2 b3 : Nat) (s1 : S b1) (s2 : S b2) (s3 : S b3) (sw : ∀ x, wa = some x → 0 < ws.length → S x.block) (w : World) (hw : IsRow .u64 w wa ws)
    (c1 : w.cell? ⟨b1, 0, none⟩ = some (.slice wa ws.length wc)) (c2 : w.cell? ⟨b2, 0, none⟩ = some (.int .i64 a)) (c3 : w.cell? ⟨b3, 0, none⟩ = some (.int .i64 b)) :
    Iter Tryz.prog 116 #[.pointer (some ⟨b1, 0, none⟩), .pointer (some ⟨b2, 0, none⟩), .pointer (some ⟨b3, 0, none⟩)] (partsL ws a b) (KpS S) w := by
  intro l J Jx W hW hJ hJx hY h0
  have d1 := (hW.cell (World.block_lt_of_cell? _ _ c1)).trans c1
  have d2 := (hW.cell (World.block_lt_of_cell? _ _ c2)).trans c2
  have d3 := (hW.cell (World.block_lt_of_cell? _ _ c3)).trans c3
  have hw' := hw.below hW
  have HY := Lib.hid hY
  have HW := Lib.hid hw'
  have HC := Lib.hid (fun k hk ha hb W hw c1 c2 c3 => cut_ok wa wc ws hu a b k hk ha hb hbb W hw b1 b2 b3 c1 c2 c3)
  have SW := Lib.hid sw
  have HL := Lib.hid hl
  obtain ⟨m, hm⟩ : ∃ m, (b + 63) / 64 - a / 64 = m := ⟨_, rfl⟩
  have HP := Lib.hid (fun k (hk : k < m) => partsL_get ws (a := a) (b := b) (k := k) (by omega))
  have HPL := Lib.hid ((partsL_length ws a b).trans hm)
  obtain ⟨q, hq⟩ : ∃ q, a / 64 = q := ⟨_, rfl⟩
  have hqI : (a : Int) / 64 = (q : Int) := by omega
  rw [hq] at HP hm
  have hqm : q + m ≤ 2048 := by omega
  have HM := Lib.hid (And.intro hm hq)
  obtain ⟨M, hML⟩ : ∃ M, ws.length = M := ⟨_, rfl⟩
  rw [hML] at d1 HC HL hl2
  clear hY hJ hJx c1 c2 c3 hw hw' sw hm hq hl hu hML
  refine callsIn_of_wp Tryz.func116 rfl trivial ?_ rfl
  simp only [Tryz.ntmps116, List.size_toArray, List.length_cons, List.length_nil, Nat.reduceAdd, Nat.reduceSub, Array.replicate_succ, Array.replicate_zero, List.push_toArray, List.append_toArray, List.nil_append, List.cons_append]
  gi_wp2
  gi_loopg [6] m (fun g iv wr => ∃ k p : Nat, k + g = m ∧ Hid (p = q + k) ∧ p ≤ 2048 ∧ iv = .int .i64 (p : Int) ∧ J k wr ∧ wr.cell? ⟨b1, 0, none⟩ = some (.slice wa M wc) ∧ wr.cell? ⟨b2, 0, none⟩ = some (.int .i64 a) ∧ wr.cell? ⟨b3, 0, none⟩ = some (.int .i64 b) ∧ Hid (IsRow .u64 wr wa ws))
  case atStart => exact ⟨0, q, by omega, Lib.hid rfl, by omega, rfl, h0, d1, d2, d3, HW⟩
  case round =>
    obtain ⟨k, p, hk, HP2, hp2, rfl, hJk, e1, e2, e3, HR⟩ := hrel
    by_cases hlt : k < m
    · obtain ⟨fn, tmps, assign, body, hy, hR⟩ := HY.out k wr (by rw [HPL.out]; exact hlt) hJk
      rw [HP.out k hlt, ← HP2.out] at hy
      have hqb : 64 * p < b := by have := HM.out; have := HP2.out; omega
      have hcut := HC.out p (by have := HL.out; omega) (by have := HM.out; have := HP2.out; omega) hqb wr HR.out e1 e2 e3
      have HCU := Lib.hid hcut
      have hqI2 : ((64 * p : Nat) : Int) = (p : Int) * 64 := by omega
      have hqI3 : (p : Int) * 64 < (b : Int) := by omega
      obtain ⟨x, hx⟩ : ∃ x, cutV ws a b p = x := ⟨_, rfl⟩
      rw [hx, hqI2] at hy
      rw [hx] at HCU
      have HK := Lib.hid hk
      clear hcut hx hJk hqI2 hk
      gi_wp2_with fail
      refine ⟨trivial, rfl, (callsIn_wide.2 HCU.out).mono ?_⟩
      rintro e w' ⟨rfl, rfl⟩
      gi_wp2
      refine ⟨rfl, hR.mono ?_⟩
      rintro e W3 (⟨rfl, hJ3, hk3⟩ | ⟨rfl, hJx3⟩)
      · have g1 := hk3.cell (a := ⟨b1, 0, none⟩) s1 e1
        have g2 := hk3.cell (a := ⟨b2, 0, none⟩) s2 e2
        have g3 := hk3.cell (a := ⟨b3, 0, none⟩) s3 e3
        have HR3 := Lib.hid (hk3.row SW.out HR.out)
        have HJ3 := Lib.hid hJ3
        clear hk3 hJ3 e1 e2 e3 HCU
        gi_wp2
        gi_roundg (gk - 1)
        case measure => have := HK.out; omega
        case rel => exact ⟨k + 1, p + 1, by have := HK.out; omega, Lib.hid (by have := HP2.out; omega), by have := HM.out; have := HP2.out; omega, by go_num, HJ3.out, g1, g2, g3, HR3⟩
      · have HJ3 := Lib.hid hJx3
        clear hJx3
        gi_wp2
        exact bodyPost_ret (results_none rfl _ _ _) rfl ⟨⟨_, rfl⟩, .inr ⟨k + 1, by rw [HPL.out]; omega, HJ3.out⟩⟩
    · have hkm : k = m := by omega
      have hqb : b ≤ 64 * p := by have := HM.out; have := HP2.out; omega
      have hqI3 : (b : Int) ≤ (p : Int) * 64 := by omega
      have HJ := Lib.hid hJk
      clear hJk
      gi_wp2
      refine bodyPost_end (results_none rfl _ _ _) rfl ⟨⟨_, rfl⟩, .inl ?_⟩
      rw [HPL.out, ← hkm]
      exact HJ.out
theorem parts_ok (wa : Option Addr) (n wc : Nat) (a b : Int) (w : World) :
    Calls Tryz.prog 103 #[.slice wa n wc, .int .i64 a, .int .i64 b] w fun e w' => e = .returned (.func (.func 116) #[] #[.pointer (some ⟨w.heap.size, 0, none⟩), .pointer (some ⟨w.heap.size + 1, 0, none⟩), .pointer (some ⟨w.heap.size + 2, 0, none⟩)]) ∧
      w' = ((w.alloc (.cells #[.slice wa n wc] 24)).alloc (.cells #[.int .i64 a] 3)).alloc (.cells #[.int .i64 b] 3) := by
  go_enter Tryz.func103, Tryz.ntmps103
  go_wp2
  go_ret
  exact ⟨rfl, rfl⟩
end

section
open Go.RowKit Go.Shelf
attribute [local go_sem] Oper.semAt_some

def AnsB (w : World) (v : Value) (e : Ending) (w' : World) : Prop := e = .returned v ∧ Below w.heap.size w w'
structure CntI (ws : List Int) (a b bo B : Nat) (w : World) (k : Nat) (W : World) : Prop where
  box : W.cell? ⟨bo, 0, none⟩ = some (.int .i64 (cntP ws a b k))
  fz : W.frozen? ⟨bo, 0, none⟩ = false
  bel : Below B w W
theorem CntI.calm {ws : List Int} {a b bo B M : Nat} {w : World} {k : Nat} {W W' : World} (h : CntI ws a b bo B w k W) (hc : Calm M W W') (hB : B ≤ M) : CntI ws a b bo B w k W' :=
  ⟨hc.cell h.box, hc.frozen h.box h.fz, hc.below hB h.bel⟩

theorem Count_ok (wa : Option Addr) (wc : Nat) (ws : List Int) (hu : U64s ws) (n a b : Nat) (hn : n ≤ 65536) (hl : ws.length ≤ 1000000000000) (hmay : wMayB ws n = true) (hab : a ≤ b) (hbn : b ≤ n) (w : World) (hw : IsRow .u64 w wa ws) :
    Calls Tryz.prog 85 #[.slice wa ws.length wc, .int .i64 n, .int .i64 a, .int .i64 b] w (AnsB w (.tuple #[.int .i64 (cntW ws a b), .int .i64 0])) := by
  have AK := Lib.hid (fun w hw => asked_ok wa wc ws hu n hn hl hmay w hw)
  have hlen : n ≤ 64 * ws.length := by
    simp only [wMayB, Bool.and_eq_true, decide_eq_true_eq] at hmay
    omega
  have IT := Lib.hid (fun S b1 b2 b3 s1 s2 s3 sw w hw c1 c2 c3 => parts1_iter wa wc ws hu a b hab (by omega) (by omega) hl S b1 b2 b3 s1 s2 s3 sw w hw c1 c2 c3)
  have HW := Lib.hid hw
  have HC := Lib.hid (cntP_all hu hab)
  have HLT := Lib.hid (fun x (h : wa = some x) (h0 : 0 < ws.length) => (show x.block < w.heap.size from by
    obtain ⟨bb, off, x', hx, -, -, hlt⟩ := hw.get h0
    rw [hx] at h
    cases h
    exact hlt))
  obtain ⟨m, hm⟩ : ∃ m, (b + 63) / 64 - a / 64 = m := ⟨_, rfl⟩
  have HP := Lib.hid (fun k (hk : k < m) => partsL_get ws (a := a) (b := b) (k := k) (by omega))
  have HPL := Lib.hid ((partsL_length ws a b).trans hm)
  have HV := Lib.hid (fun k (hk : k < m) => cutV_bd hu (a := a) (b := b) (k := a / 64 + k) (by omega))
  have HLE := Lib.hid (cntP_le (ws := ws) a b)
  have HS := Lib.hid (cntP_succ ws a b)
  have hmb : m ≤ 1024 := by omega
  rw [hm] at HC
  obtain ⟨M, hM⟩ : ∃ M, ws.length = M := ⟨_, rfl⟩
  have HM := Lib.hid hM
  rw [hM] at hlen hl AK IT HLT ⊢
  clear hw hmay hM hu hm
  refine calls_of_wp_m Tryz.func85 rfl ?_
  simp only [Tryz.ntmps85, List.size_toArray, List.length_cons, List.length_nil, Nat.reduceAdd, Nat.reduceSub, Array.replicate_succ, Array.replicate_zero, List.push_toArray, List.append_toArray, List.nil_append, List.cons_append]
  go_wp2_with fail
  refine (AK.out _ (HW.out.below ((Below.refl _ _).alloc (Nat.le_refl _) _))).mono ?_
  rintro e w' ⟨rfl, rfl⟩
  go_wp2_with fail
  refine (parts_ok wa M wc a b _).mono ?_
  rintro e w2 ⟨rfl, rfl⟩
  go_wp2
  refine wp_range (xs := partsL ws a b) (Kp := KpS (fun k => k ≠ w.heap.size ∧ k < w.heap.size + 4)) rfl (enters_of Tryz.func116 (by kernel_rfl) rfl)
    (IT.out (fun k => k ≠ w.heap.size ∧ k < w.heap.size + 4) (w.heap.size + 1) (w.heap.size + 1 + 1) (w.heap.size + 1 + 2) (by omega) (by omega) (by omega) ?sw _ ?hw ?c1 ?c2 ?c3) (Below.refl _ _) (fun _ _ _ => rfl) (fun h k => fun i hi => (k i hi).trans (h i hi)) ?kb ?ps
    (CntI ws a b w.heap.size w.heap.size w) (fun _ _ => False) ?hI (fun _ _ _ h _ => h) ?h0 ?round ?done (fun _ _ _ _ h _ => h.elim)
  case sw => intro x hx h0; have := HLT.out x hx h0; omega
  case hw => exact HW.out.below (by (exact xbel))
  case c1 => (exact xcn)
  case c2 => (exact xcn)
  case c3 => (exact xcn)
  case kb =>
    intro W l o o' hl _ _ k hk
    simp at hl
    exact World.putObj_heap_other (by omega)
  case ps =>
    intro x hx
    simp only [partsL, List.mem_map] at hx
    obtain ⟨k, _, rfl⟩ := hx
    rfl
  case hI =>
    intro k W W' h hc
    exact h.calm hc (by simp; omega)
  case h0 =>
    exact ⟨by rw [cntP_zero]; (exact xcn), by (exact xcn), by (exact xbel)⟩
  case round =>
    intro l k W hl hk hi
    rw [HPL.out] at hk
    rw [HP.out k hk]
    have hv := HV.out k hk
    have h1 := HLE.out k
    have h2 := popI_le (cutV ws a b (a / 64 + k))
    have h3 := HS.out k
    have O1 := Lib.hid (fun W => Ones_ok (cutV ws a b (a / 64 + k)) hv.1 hv.2 W)
    generalize cutV ws a b (a / 64 + k) = x at *
    generalize popI x = px at *
    gi_wp2
    refine ⟨rfl, ?_⟩
    intro W2 hi2
    have hcb := hi2.box
    have hfz := hi2.fz
    generalize cntP ws a b k = s at *
    have H3 := Lib.hid h3
    clear h3
    gi_wp2
    refine wpIn_region_facts 4 (by kernel_rfl) (N := 42) rfl (by kernel_rfl) (by kernel_rfl) (by decide) (fun w' => w' = W2.drew) (Ext 29) (factAt [.is (.int .i64 s), .is (.int .u64 x), .is (.int .i64 px), .is (.int .i64 (s + px))]) (factAt_stays _) rfl ?steps ?fin
    case steps =>
      refine ⟨?o0, ?o1, ?o2, ?o3, trivial⟩
      case o0 =>
        intro u a w' ev hJ hd K hK
        have e1 : a.tmps.getD 8 undef = .pointer (some ⟨w.heap.size, 0, none⟩) := ev 8 (by decide)
        have HK := Lib.hid hK
        subst hJ
        clear hK ev hd
        rw [if_pos (wanted_free rfl)]
        go_simp
        exact HK.out _ _ (fun h => by cases h) rfl rfl (Ext.refl _ _)
      case o1 =>
        intro u a w' ev hJ hd K hK
        have e1 : a.tmps.getD 12 undef = .int .u64 x := ev 12 (by decide)
        have HK := Lib.hid hK
        subst hJ
        clear hK ev hd
        rw [if_pos (wanted_free rfl)]
        go_simp
        exact HK.out _ _ (fun h => by cases h) rfl rfl (Ext.refl _ _)
      case o2 =>
        intro u a w' ev hJ hd K hK
        have e1 : a.tmps.getD 38 undef = .int .u64 x := (ev 38 (by decide)).trans (hd 1 _ (by kernel_rfl) rfl)
        have HK := Lib.hid hK
        subst hJ
        clear hK ev hd
        rw [if_pos (wanted_free rfl)]
        go_simp
        refine ⟨trivial, rfl, (callsIn_wide.2 (O1.out _)).mono ?_⟩
        rintro e w'' ⟨rfl, rfl⟩
        exact HK.out _ _ (fun h => by cases h) rfl rfl (Ext.refl _ _)
      case o3 =>
        intro u a w' ev hJ hd K hK
        have e1 : a.tmps.getD 37 undef = .int .i64 s := (ev 37 (by decide)).trans (hd 0 _ (by kernel_rfl) rfl)
        have e2 : a.tmps.getD 39 undef = .int .i64 px := (ev 39 (by decide)).trans (hd 2 _ (by kernel_rfl) rfl)
        have HK := Lib.hid hK
        have hwr : IntKind.i64.wrap ((s : Int) + (px : Int)) = (s : Int) + (px : Int) := IntWalk.i64_in _ (by omega)
        subst hJ
        clear hK ev hd
        rw [if_pos (wanted_free rfl)]
        go_simp
        exact HK.out _ _ (fun h => by cases h) rfl rfl (Ext.refl _ _)
    case fin =>
      intro u w2 hJ hG
      have h3 : u 40 = .int .i64 (s + px) := hG 3 _ rfl
      subst hJ
      clear hG
      simp only [mixFrame, mixL, dstsOf, List.take_succ_cons, List.take_zero, List.filterMap_cons, List.filterMap_nil, List.contains_cons, List.contains_nil, Nat.reduceBEq, Bool.or_false, Bool.false_or, Bool.or_true, Bool.true_or, if_true, if_false, Bool.false_eq_true, Nat.reduceAdd, Nat.zero_add, List.drop_succ_cons, List.drop_zero, h3]
      gi_wp2
      have e : ((cntP ws a b (k + 1) : Nat) : Int) = (s : Int) + (px : Int) := by rw [H3.out]; push_cast; rfl
      refine ⟨(KeepsOthers.setCell W2 ⟨w.heap.size, 0, none⟩ (.int .i64 ((s : Int) + px))).trans (keeps_drewN _ 1), fun i hi => Below.heap_setCell W2 ⟨w.heap.size, 0, none⟩ _ _ hi.1, ⟨?_, ?_, ?_⟩⟩
      · rw [e]
        exact World.cell?_setCell_same _ _ _ hcb
      · rw [World.frozen?_drew, World.frozen?_setCell]; exact hfz
      · exact (hi2.bel.setCell (Nat.le_refl _) _).drew
  case done =>
    intro D W hD hi hK
    have hcb := hi.box
    have hfz := hi.fz
    rw [HPL.out, HC.out] at hcb
    generalize cntW ws a b = s at *
    go_wp2
    simp at hD
    have hK2 : (W.setCell ⟨w.heap.size, 0, none⟩ (.int .i64 s)).heap[D]? = some (.deferred (some [])) := (Below.heap_setCell _ _ _ _ (by show D ≠ w.heap.size; omega)).trans hK
    have hcalm : Calm (w.heap.size + 1) (W.setCell ⟨w.heap.size, 0, none⟩ (.int .i64 s)) ((W.setCell ⟨w.heap.size, 0, none⟩ (.int .i64 s)).putObj D (.deferred none)) := Calm.putObj _ (by omega) hK2 rfl
    exact postM_one hK2 (results_ct rfl rfl (run_loadVar_one Tryz.underlying3 rfl (hcalm.cell (World.cell?_setCell_same _ _ _ hcb)))) ⟨rfl, hcalm.below (by omega) (hi.bel.setCell (Nat.le_refl _) _)⟩
end
end Go.Proofs.YtjhpblejlchhjaaGreat
