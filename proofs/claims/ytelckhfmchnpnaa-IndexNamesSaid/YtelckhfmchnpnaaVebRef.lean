/- Walks of the reference 17: Laid, Places, Table. -/
import Derived.Test.YtelckhfmchnpnaaHeap
import Derived.Test.YtelckhfmchnpnaaVebPlain
namespace Go.Proofs.Ytelckhfmchnpnaa
open Go.RowKit
set_option linter.unusedVariables false
set_option linter.unusedSimpArgs false

theorem lay_pos (L r : Nat) (h : 1 ≤ L) : 0 < (ints (lay L r)).length := by
  rw [ints_length, lay_len r h]
  have : 2 ^ 1 ≤ 2 ^ L := Nat.pow_le_pow_right (by omega) h
  omega

/-- what Laid has after k of the lower parts -/
def layTo (L r k : Nat) : List Nat := lay (L / 2) r ++ (List.range k).flatMap fun i => lay (L - L / 2) (r * 2 ^ (L / 2) + i)
theorem layTo_succ (L r k : Nat) : ints (layTo L r (k + 1)) = ints (layTo L r k) ++ ints (lay (L - L / 2) (r * 2 ^ (L / 2) + k)) := by
  rw [← ints_append]; simp [layTo, List.range_succ]
theorem layTo_zero (L r : Nat) : layTo L r 0 = lay (L / 2) r := by simp [layTo]
theorem layTo_all (L r : Nat) (h : 2 ≤ L) : layTo L r (2 ^ (L / 2)) = lay L r := by rw [lay_two h]; rfl
theorem layTo_len (L r k : Nat) (h : 2 ≤ L) (h14 : L ≤ 14) (hk : k ≤ 2 ^ (L / 2)) : (ints (layTo L r k)).length ≤ 16384 := by
  rw [ints_length, layTo, List.length_append, length_flatMap_const _ (2 ^ (L - L / 2) - 1) (fun i => lay_len _ (by omega)), lay_len _ (by omega)]
  have e : 2 ^ L = 2 ^ (L / 2) * 2 ^ (L - L / 2) := by rw [← Nat.pow_add]; congr 1; omega
  have p1 : 2 ^ L ≤ 2 ^ 14 := Nat.pow_le_pow_right (by omega) h14
  have p2 := Nat.two_pow_pos (L - L / 2)
  have p3 : k * (2 ^ (L - L / 2) - 1) ≤ 2 ^ (L / 2) * (2 ^ (L - L / 2) - 1) := Nat.mul_le_mul_right _ hk
  have p4 : 2 ^ (L / 2) * (2 ^ (L - L / 2) - 1) = 2 ^ (L / 2) * 2 ^ (L - L / 2) - 2 ^ (L / 2) := by rw [Nat.mul_sub, Nat.mul_one]
  have : 2 ^ (L / 2) * 1 ≤ 2 ^ (L / 2) * 2 ^ (L - L / 2) := Nat.mul_le_mul_left _ p2
  omega
theorem kid_bd (L r k : Nat) (h : 2 ≤ L) (hk : k < 2 ^ (L / 2)) (hB : (r + 1) * 2 ^ L ≤ 1048576) :
    (r * 2 ^ (L / 2) + k + 1) * 2 ^ (L - L / 2) ≤ 1048576 := by
  have e : 2 ^ L = 2 ^ (L / 2) * 2 ^ (L - L / 2) := by rw [← Nat.pow_add]; congr 1; omega
  rw [e, ← Nat.mul_assoc] at hB
  refine Nat.le_trans (Nat.mul_le_mul_right _ ?_) hB
  rw [Nat.add_mul]; omega

set_option maxRecDepth 10000 in
set_option maxHeartbeats 400000 in
theorem Laid_ok : ∀ (m L r : Nat) (l q : Int) (w : World), l = L → q = r → L ≤ m → 1 ≤ L → L ≤ 14 → (r + 1) * 2 ^ L ≤ 1048576 →
    Calls Try.prog 82 #[.int .i64 l, .int .i64 q] w (FreshInts w (ints (lay L r))) := by
  intro m
  induction m with
  | zero => intro L r l q w _ _ h1 h2; omega
  | succ m ih =>
    intro L r l q w hl hq h1 h2 h3 h4
    subst hl hq
    have IH := Lib.hid ih
    clear ih
    by_cases h : L = 1
    · subst h
      go_enter Try.func82, Try.ntmps82
      go_wp2
      go_ret
      refine ⟨_, rfl, ?_, (Below.refl _ _).alloc (Nat.le_refl _) _⟩
      rw [lay_one]
      exact World.ownsRow_lit w #[.int .i64 r] 1 (Nat.le_refl _) (by decide) rfl
    · obtain ⟨i0, hi, hz0, hz1, hz2⟩ := info_parts info_int
      have e1 : ((L : Int) == 1) = false := by simp; omega
      obtain ⟨u, hu⟩ : ∃ u, L / 2 = u := ⟨_, rfl⟩
      have hu2 : (L : Int) / 2 = (u : Int) := by omega
      have hul : 1 ≤ u ∧ u ≤ 7 ∧ u < L := by omega
      obtain ⟨hb1, hb2⟩ := pow_bd u (by omega)
      have hp : (2 : Nat) ^ u ≤ 128 := Nat.le_trans (Nat.pow_le_pow_right (by omega) hul.2.1) (by decide)
      have hrb : (r + 1) * 2 ^ u ≤ 1048576 := Nat.le_trans (Nat.mul_le_mul_left _ (Nat.pow_le_pow_right (by omega) (by omega))) h4
      have HU := Lib.hid hu
      have HU2 := Lib.hid hu2
      clear hu hu2
      go_enter Try.func82, Try.ntmps82
      go_wp2_with fail
      rw [HU2.out]
      refine (IH.out u r _ _ _ rfl rfl (by omega) (by omega) (by omega) hrb).mono ?_
      rintro e w1 ⟨v1, rfl, ho1, hbel1⟩
      go_wp2_with fail
      go_loopg [6, 7] (2 ^ u) (fun g v i wr => ∃ k : Nat, k + g = 2 ^ u ∧ i = .int .i64 k ∧
        wr.ownsRow w.heap.size 3 1 v (ints (layTo L r k)).length ((ints (layTo L r k)).map (Value.int .i64)) ∧ Below w.heap.size w wr)
      case atStart => exact ⟨0, by omega, rfl, by rw [layTo_zero, HU.out]; exact ho1, hbel1⟩
      case round =>
        obtain ⟨k, hk, rfl, hown, hbel⟩ := hrel
        have hm1 : 0 ≤ (r : Int) * 2 ^ u := Int.mul_nonneg (by omega) (by omega)
        have hm2 : (r : Int) * 2 ^ u + 2 ^ u ≤ 1048576 := by
          have e : (r : Int) * 2 ^ u + 2 ^ u = (((r + 1) * 2 ^ u : Nat) : Int) := by push_cast; rw [Int.add_mul, Int.one_mul]
          rw [e]; omega
        have hpc : ((2 ^ u : Nat) : Int) = 2 ^ u := by push_cast; rfl
        have hkk : (k : Int) + gk = 2 ^ u := by rw [← hpc, ← hk]; push_cast; rfl
        have HPC := Lib.hid hpc
        have HK := Lib.hid hk
        clear hpc hk
        by_cases hlt : 0 < gk
        · have hklt : (k : Int) < 2 ^ u := by omega
          have HKK := Lib.hid hkk
          clear hkk
          have hrk := kid_bd L r k (by omega) (by rw [HU.out]; have := HK.out; omega) h4
          rw [HU.out] at hrk
          go_wp2_with (go_at_call 81; refine (Pow_ok _ (by omega) (by omega) _).mono ?_; rintro e w' ⟨rfl, rfl⟩)
          refine (IH.out (L - u) (r * 2 ^ u + k) _ _ _ (by omega) (by push_cast; rfl) (by omega) (by omega) (by omega) hrk).mono ?_
          rintro e w2 ⟨v2, rfl, ho2, hbel2⟩
          have hown2 := owns_below hown hbel2
          obtain ⟨g2, cap2, rfl, hg2, hcells⟩ := owns_some ho2 (lay_pos _ _ (by omega))
          have hn1 := layTo_len L r (k + 1) (by omega) h3 (by rw [HU.out]; have := HK.out; omega)
          have hsucc := layTo_succ L r k
          rw [HU.out] at hsucc
          have hlen := congrArg List.length hsucc
          rw [List.length_append] at hlen
          have hn2 : (ints (layTo L r k)).length + (ints (lay (L - u) (r * 2 ^ u + k))).length ≤ 4294967296 := by omega
          have HS := Lib.hid hsucc
          have hb0 := hbel.size
          have hb2 := hbel2.size
          clear hsucc hlen hown ho2
          go_wp2_with (at_builtin; refine wpl_append_ints (.tmp 23) (.tmp 33) w.heap.size _ (ints (layTo L r k)) ⟨g2, 0, none⟩ cap2 (ints (lay (L - u) (r * 2 ^ u + k))) hown2 hcells hn2 (by omega) rfl rfl rfl rfl ?_; intro v3 w3 hown3 hgrow3)
          have hbel3 := ((hbel.trans (hbel2.mono hb0))).grown hgrow3 (by omega) (fun q hq => (hown2.lt q hq).1)
          rw [← HS.out] at hown3
          go_roundg (gk - 1)
          case measure => omega
          case rel => exact ⟨k + 1, by have := HK.out; omega, by go_num, hown3, hbel3⟩
        · have hk2 : k = 2 ^ u := by have := HK.out; omega
          have HK2 := Lib.hid hk2
          have hge : ¬ ((k : Int) < 2 ^ u) := by omega
          clear hk2 hkk
          go_wp2_with (go_at_call 81; refine (Pow_ok _ (by omega) (by omega) _).mono ?_; rintro e w' ⟨rfl, rfl⟩)
          go_ret
          refine ⟨_, rfl, ?_, hbel⟩
          have e3 : ints (layTo L r k) = ints (lay L r) := by rw [HK2.out, ← HU.out, layTo_all _ _ (by omega)]
          rw [← e3]; exact hown
theorem Laid17_ok (L : Nat) (l : Int) (hl : l = L) (h1 : 1 ≤ L) (h2 : L ≤ 14) (w : World) :
    Calls Try.prog 82 #[.int .i64 l, .int .i64 1] w (FreshInts w (ints (lay L 1))) :=
  Laid_ok L L 1 l 1 w hl rfl (Nat.le_refl _) h1 h2 (by have : 2 ^ L ≤ 2 ^ 14 := Nat.pow_le_pow_right (by omega) h2; omega)

theorem Places17_ok (L : Nat) (l : Int) (hl : l = L) (h1 : 1 ≤ L) (h2 : L ≤ 14) (w : World) :
    Calls Try.prog 65 #[.int .i64 l] w (FreshInts w (plc L)) := by
  subst hl
  have hp : 1 ≤ 2 ^ L ∧ 2 ^ L ≤ 16384 := ⟨Nat.two_pow_pos L, Nat.pow_le_pow_right (by omega) h2⟩
  have e1 : (2 : Int) ^ L - 1 = ((2 ^ L - 1 : Nat) : Int) := by rw [Int.natCast_sub hp.1]; push_cast; rfl
  go_enter Try.func65, Try.ntmps65
  have E1 := Lib.hid e1
  clear e1
  go_wp2_with (first
    | (go_at_call 61; refine (Many16_ok _ (by omega) (by omega) _).mono ?_; rintro e w' ⟨rfl, rfl⟩)
    | (at_make; refine wpl_make_ints (.tmp 7) (.tmp 7) w.heap.size (2 ^ L - 1) _ E1.out (by omega) (Nat.le_refl _) rfl rfl rfl rfl ?_; intro g w1 hg hown hbel))
  refine (Laid17_ok L _ rfl h1 h2 _).mono ?_
  rintro e w2 ⟨v2, rfl, ho2, hbel2⟩
  have hownb := owns_below hown hbel2
  have hbelb := hbel.trans (hbel2.mono hbel.size)
  obtain ⟨a2, cap2, rfl, hi2, hb2, _⟩ := ints_of_owns ho2
  have hlen : (ints (lay L 1)).length = 2 ^ L - 1 := by rw [ints_length, lay_len 1 h1]
  have HLEN := Lib.hid hlen
  have hlenb : (ints (lay L 1)).length ≤ 16384 := by omega
  have hglt := (hown.lt g rfl).2
  clear hown hlen ho2
  have HI := Lib.hid hi2
  have HB := Lib.hid hb2
  clear hi2 hb2
  go_wp2
  go_loopg [5] (2 ^ L - 1) (fun gk i wr => ∃ k : Nat, k + gk = 2 ^ L - 1 ∧ i = .int .i64 k ∧
      wr.ownsRow w.heap.size 3 1 (.slice (some ⟨g, 0, none⟩) (2 ^ L - 1) (2 ^ L - 1)) (fillTo (2 ^ L - 1) (lay L 1) k).length ((fillTo (2 ^ L - 1) (lay L 1) k).map (Value.int .i64)) ∧
      Below w.heap.size w wr ∧ IsInts wr a2 (ints (lay L 1)))
  case atStart => exact ⟨0, by omega, rfl, hownb, hbelb, HI.out⟩
  case round =>
    obtain ⟨k, hk, rfl, how, hbe, hin⟩ := hrel
    have HK := Lib.hid hk
    by_cases hlt : k < (ints (lay L 1)).length
    · have hin2 := lay_in (L := L) (k := k) h1 (by rw [← HLEN.out]; exact hlt)
      obtain ⟨b2, o2, x, rfl, hx, hc2, hbl2⟩ := hin.get hlt
      have hx2 := hx.out
      rw [getD_ints] at hx2
      have hxb : 1 ≤ x ∧ x ≤ 16384 := by omega
      have hjl : (x.toNat - 1) < (fillTo (2 ^ L - 1) (lay L 1) k).length := by rw [fillTo_length]; omega
      obtain ⟨⟨y, hy, hcy⟩, hfz, hst⟩ := ints_cell how hjl
      have hle : x ≤ ((2 ^ L - 1 : Nat) : Int) := by omega
      have HX := Lib.hid hx2
      clear hx2 hk hin2
      go_wp2
      go_roundg (gk - 1)
      case measure => have := HK.out; have := HLEN.out; omega
      case rel =>
        have ex : x.toNat = (lay L 1).getD k 0 := by have := HX.out; omega
        refine ⟨k + 1, by have := HK.out; have := HLEN.out; omega, by go_num, ?_, hbe.setCell (by exact hg) _, hin.setCell (fun z hz => ?_) _⟩
        · rw [fillTo, ← ex]; exact hst k
        · have h9 : w1.heap.size ≤ b2 := (HB.out ⟨b2, o2, none⟩ rfl).1
          cases hz
          show b2 ≠ g
          omega
    · go_wp2
      go_ret
      refine ⟨_, rfl, ?_, hbe⟩
      have hk2 : k = 2 ^ L - 1 := by have := HLEN.out; omega
      rw [hk2] at how
      have e2 : (plc L).length = 2 ^ L - 1 := by rw [plc, fillTo_length]
      rw [e2]
      rw [fillTo_length] at how
      exact how

end Go.Proofs.Ytelckhfmchnpnaa
