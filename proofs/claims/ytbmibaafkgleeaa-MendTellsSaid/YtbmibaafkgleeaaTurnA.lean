/- Merged: Alike, Turned. -/
import Derived.Test.YtbmibaafkgleeaaMendPT
import Derived.Test.YtbmibaafkgleeaaIdxEq
import Derived.Test.YtbmibaafkgleeaaOccAll
import Derived.Laws.Bits64b
import Derived.Lib.QuietBelow
import Derived.Test.YtbmibaafkgleeaaSlRef
namespace Go.Proofs.Ytbmibaafkgleeaa
set_option linter.unusedVariables false
set_option linter.unusedSimpArgs false
section
open Go.RowKit Go.Shelf Go.Sort

theorem bits_xor_nat (a b : Nat) (ha : a < 18446744073709551616) (hb : b < 18446744073709551616) : bits .xor .u64 (a : Int) (b : Int) = ((a ^^^ b : Nat) : Int) := by
  have hx : a ^^^ b < 2 ^ 64 := Nat.xor_lt_two_pow (by omega) (by omega)
  have h1 : (BitVec.ofInt 64 (a : Int)).toNat = a := by
    rw [BitVec.ofInt_natCast, BitVec.toNat_ofNat]; exact Nat.mod_eq_of_lt (by omega)
  have h2 : (BitVec.ofInt 64 (b : Int)).toNat = b := by
    rw [BitVec.ofInt_natCast, BitVec.toNat_ofNat]; exact Nat.mod_eq_of_lt (by omega)
  show IntKind.u64.wrap ((BitVec.ofInt 64 (a : Int) ^^^ BitVec.ofInt 64 (b : Int)).toNat : Int) = _
  rw [BitVec.toNat_xor, h1, h2, IntKind.wrap_u64]
  omega
theorem xor_facts {x y : Int} (hx : 0 ≤ x ∧ x < 18446744073709551616) (hy : 0 ≤ y ∧ y < 18446744073709551616) : ∃ z, bits .xor .u64 x y = z ∧ 0 ≤ z ∧ z < 18446744073709551616 ∧ ∀ k, bitI z k = (bitI x k != bitI y k) := by
  obtain ⟨a, rfl⟩ : ∃ a : Nat, x = a := ⟨x.toNat, by omega⟩
  obtain ⟨b, rfl⟩ : ∃ b : Nat, y = b := ⟨y.toNat, by omega⟩
  have hlt : a ^^^ b < 2 ^ 64 := Nat.xor_lt_two_pow (by omega) (by omega)
  refine ⟨((a ^^^ b : Nat) : Int), bits_xor_nat a b (by omega) (by omega), by omega, by omega, fun k => ?_⟩
  rw [bitI_nat, bitI_nat, bitI_nat, Nat.testBit_xor]
/-- a part of a row -/
theorem IsRow.part {k : IntKind} {w : World} {b off : Nat} {xs : List Int} (h : IsRow k w (some ⟨b, off, none⟩) xs) (lo n : Nat) (hn : lo + n ≤ xs.length) (h0 : 0 < n) : IsRow k w (some ⟨b, off + lo, none⟩) ((xs.drop lo).take n) := by
  obtain ⟨b', off', e, hlt, hc⟩ := h 0 (by omega)
  cases e
  intro i hi
  refine ⟨b, off + lo, rfl, hlt, fun j hj => ?_⟩
  have hj' : j < n := by simp at hj; omega
  have := hc (lo + j) (by omega)
  rw [show off + lo + j = off + (lo + j) by omega, this, List.getD_eq_getElem?_getD, List.getD_eq_getElem?_getD, List.getElem?_take, if_pos hj', List.getElem?_drop]
theorem part_eq {xs ys : List Int} {lo n : Nat} (h1 : lo + n ≤ xs.length) (h2 : lo + n ≤ ys.length) : (xs.drop lo).take n = (ys.drop lo).take n ↔ ∀ i, lo ≤ i → i < lo + n → xs.getD i 0 = ys.getD i 0 := by
  constructor
  · intro h i i1 i2
    have := congrArg (fun l => l.getD (i - lo) 0) h
    simp only [List.getD_eq_getElem?_getD, List.getElem?_take, List.getElem?_drop] at this
    rw [if_pos (by omega), if_pos (by omega), show lo + (i - lo) = i by omega] at this
    simpa [List.getD_eq_getElem?_getD] using this
  · intro h
    refine List.ext_getElem (by simp; omega) fun i i1 i2 => ?_
    have hi : i < n := by simp at i1; omega
    have := h (lo + i) (by omega) (by omega)
    rw [List.getD_eq_getElem?_getD, List.getD_eq_getElem?_getD, List.getElem?_eq_getElem (by omega), List.getElem?_eq_getElem (by omega)] at this
    rw [List.getElem_take, List.getElem_take, List.getElem_drop, List.getElem_drop]
    simpa using this

set_option maxRecDepth 100000 in
set_option maxHeartbeats 4000000 in
theorem alike_ok (S M k : Nat) (c d : SlC) (a b : SlA) (w : World) (hc : SlIn w c a) (hd : SlIn w d b) (h4 : 4 ≤ S) (h64 : S ≤ 64) (hSM : S * M ≤ 65536) (hcs : c.seg = S) (hds : d.seg = S) (hck : c.ks.length = S * M) (hdk : d.ks.length = S * M) (hcv : c.vs.length = S * M) (hdv : d.vs.length = S * M) (hcw : c.ws.length = (S * M + 63) / 64) (hdw : d.ws.length = (S * M + 63) / 64)
    (q1 : S * M ≤ a.kc) (q2 : S * M ≤ a.vc) (q3 : S * M ≤ b.kc) (q4 : S * M ≤ b.vc) (hk : k < M) :
    Calls Try.prog 34 #[slV c a, slV d b, .int .i64 k] w (AnsB w (.bool (alkB c d S k))) := by
  have hk1 : (k : Int) * (S : Int) = ((k * S : Nat) : Int) := by push_cast; rfl
  have hk2 : ((k : Int) + 1) * (S : Int) = (((k + 1) * S : Nat) : Int) := by push_cast; rfl
  have hkS : (k + 1) * S = k * S + S := by rw [Nat.add_mul, Nat.one_mul]
  have hkM : (k + 1) * S ≤ S * M := by rw [Nat.mul_comm S]; exact Nat.mul_le_mul_right _ hk
  have HALK := Lib.hid (alkB_iff (c := c) (d := d) (S := S) (k := k))
  obtain ⟨R, hR⟩ : ∃ R, alkB c d S k = R := ⟨_, rfl⟩
  rw [hR] at HALK ⊢
  have HC := Lib.hid hc
  have HD := Lib.hid hd
  have hku := hc.u
  have hdu := hd.u
  obtain ⟨bk1, ok1, x1, hb1, -, -, -⟩ := hc.k.get (i := 0) (by omega)
  obtain ⟨bk2, ok2, x2, hb2, -, -, -⟩ := hd.k.get (i := 0) (by omega)
  obtain ⟨bv1, ov1, y1, hb3, -, -, -⟩ := hc.v.get (i := 0) (by omega)
  obtain ⟨bv2, ov2, y2, hb4, -, -, -⟩ := hd.v.get (i := 0) (by omega)
  have HU1 := Lib.hid hku
  have HU2 := Lib.hid hdu
  have HL := Lib.hid (And.intro hcw hdw)
  have HL2 := Lib.hid (And.intro (And.intro hck hdk) (And.intro hcv hdv))
  have hk8 : k ≤ 16384 := by
    have : k * 1 ≤ k * S := Nat.mul_le_mul_left _ (by omega)
    have : k * 4 ≤ k * S := Nat.mul_le_mul_left _ (by omega)
    omega
  obtain ⟨p1, hp1⟩ : ∃ p1, k * S = p1 := ⟨_, rfl⟩
  obtain ⟨p2, hp2⟩ : ∃ p2, (k + 1) * S = p2 := ⟨_, rfl⟩
  obtain ⟨SM, hSMe⟩ : ∃ SM, S * M = SM := ⟨_, rfl⟩
  rw [hp1] at hk1 hkS HALK
  rw [hp2] at hk2 hkS hkM HALK
  rw [hSMe] at hSM q1 q2 q3 q4 hkM HL HL2
  obtain ⟨seg, ws, ks, vs, cs, laid⟩ := c
  obtain ⟨wa, ka, va, ca, wc, kc, vc, cc⟩ := a
  obtain ⟨seg', ws', ks', vs', cs', laid'⟩ := d
  obtain ⟨wa', ka', va', ca', wc', kc', vc', cc'⟩ := b
  dsimp only [slV] at *
  subst hcs hds hb1 hb2 hb3 hb4
  rw [HL2.out.1.1, HL2.out.1.2, HL2.out.2.1, HL2.out.2.2]
  have HP := Lib.hid (And.intro hp1 hp2)
  clear hc hd hku hdu hck hdk hcv hdv hcw hdw hk hR hp1 hp2 hSMe
  go_enter Try.func34, Try.ntmps34
  go_wp2
  generalize hwz : ((w.alloc (.cells #[.int .i64 S, .slice wa ws.length wc, .slice (some ⟨bk1, ok1, none⟩) SM kc, .slice (some ⟨bv1, ov1, none⟩) SM vc, .slice ca cs.length cc, .int .u64 laid] 29)).alloc (.cells #[.int .i64 S, .slice wa' ws'.length wc', .slice (some ⟨bk2, ok2, none⟩) SM kc', .slice (some ⟨bv2, ov2, none⟩) SM vc', .slice ca' cs'.length cc', .int .u64 laid'] 29)) = wz
  have c_s0 : wz.cell? ⟨w.heap.size, 0, none⟩ = some (.int .i64 S) := by rw [← hwz]; (first | (with_reducible assumption) | ((simp only [World.frozen?_setCell, World.frozen?_drew, World.frozen?_drewN]) <;> (with_reducible assumption)) | ((repeat (first | (with_reducible assumption) | (with_reducible refine World.cell?_setCell_same _ _ _ (by with_reducible assumption)) | (rw [World.cell?_setCell_other _ _ _ _ (by intro e; simp at e; done)]) | (with_reducible refine cell_setCell_block ?_ ?_) | (rw [World.cell?_drew]) | (rw [World.cell?_drewN]) | (dsimp only; omega))); done) | (first | (with_reducible assumption) | ((try simp (disch := first | omega | (simp only [szW] <;> omega) | fail) only [ceW]) <;> first | (with_reducible assumption) | rfl)))
  have c_s1 : wz.cell? ⟨w.heap.size, 1, none⟩ = some (.slice wa ws.length wc) := by rw [← hwz]; (first | (with_reducible assumption) | ((simp only [World.frozen?_setCell, World.frozen?_drew, World.frozen?_drewN]) <;> (with_reducible assumption)) | ((repeat (first | (with_reducible assumption) | (with_reducible refine World.cell?_setCell_same _ _ _ (by with_reducible assumption)) | (rw [World.cell?_setCell_other _ _ _ _ (by intro e; simp at e; done)]) | (with_reducible refine cell_setCell_block ?_ ?_) | (rw [World.cell?_drew]) | (rw [World.cell?_drewN]) | (dsimp only; omega))); done) | (first | (with_reducible assumption) | ((try simp (disch := first | omega | (simp only [szW] <;> omega) | fail) only [ceW]) <;> first | (with_reducible assumption) | rfl)))
  have c_s2 : wz.cell? ⟨w.heap.size, 2, none⟩ = some (.slice (some ⟨bk1, ok1, none⟩) SM kc) := by rw [← hwz]; (first | (with_reducible assumption) | ((simp only [World.frozen?_setCell, World.frozen?_drew, World.frozen?_drewN]) <;> (with_reducible assumption)) | ((repeat (first | (with_reducible assumption) | (with_reducible refine World.cell?_setCell_same _ _ _ (by with_reducible assumption)) | (rw [World.cell?_setCell_other _ _ _ _ (by intro e; simp at e; done)]) | (with_reducible refine cell_setCell_block ?_ ?_) | (rw [World.cell?_drew]) | (rw [World.cell?_drewN]) | (dsimp only; omega))); done) | (first | (with_reducible assumption) | ((try simp (disch := first | omega | (simp only [szW] <;> omega) | fail) only [ceW]) <;> first | (with_reducible assumption) | rfl)))
  have c_s3 : wz.cell? ⟨w.heap.size, 3, none⟩ = some (.slice (some ⟨bv1, ov1, none⟩) SM vc) := by rw [← hwz]; (first | (with_reducible assumption) | ((simp only [World.frozen?_setCell, World.frozen?_drew, World.frozen?_drewN]) <;> (with_reducible assumption)) | ((repeat (first | (with_reducible assumption) | (with_reducible refine World.cell?_setCell_same _ _ _ (by with_reducible assumption)) | (rw [World.cell?_setCell_other _ _ _ _ (by intro e; simp at e; done)]) | (with_reducible refine cell_setCell_block ?_ ?_) | (rw [World.cell?_drew]) | (rw [World.cell?_drewN]) | (dsimp only; omega))); done) | (first | (with_reducible assumption) | ((try simp (disch := first | omega | (simp only [szW] <;> omega) | fail) only [ceW]) <;> first | (with_reducible assumption) | rfl)))
  have c_s4 : wz.cell? ⟨w.heap.size, 4, none⟩ = some (.slice ca cs.length cc) := by rw [← hwz]; (first | (with_reducible assumption) | ((simp only [World.frozen?_setCell, World.frozen?_drew, World.frozen?_drewN]) <;> (with_reducible assumption)) | ((repeat (first | (with_reducible assumption) | (with_reducible refine World.cell?_setCell_same _ _ _ (by with_reducible assumption)) | (rw [World.cell?_setCell_other _ _ _ _ (by intro e; simp at e; done)]) | (with_reducible refine cell_setCell_block ?_ ?_) | (rw [World.cell?_drew]) | (rw [World.cell?_drewN]) | (dsimp only; omega))); done) | (first | (with_reducible assumption) | ((try simp (disch := first | omega | (simp only [szW] <;> omega) | fail) only [ceW]) <;> first | (with_reducible assumption) | rfl)))
  have c_s5 : wz.cell? ⟨w.heap.size, 5, none⟩ = some (.int .u64 laid) := by rw [← hwz]; (first | (with_reducible assumption) | ((simp only [World.frozen?_setCell, World.frozen?_drew, World.frozen?_drewN]) <;> (with_reducible assumption)) | ((repeat (first | (with_reducible assumption) | (with_reducible refine World.cell?_setCell_same _ _ _ (by with_reducible assumption)) | (rw [World.cell?_setCell_other _ _ _ _ (by intro e; simp at e; done)]) | (with_reducible refine cell_setCell_block ?_ ?_) | (rw [World.cell?_drew]) | (rw [World.cell?_drewN]) | (dsimp only; omega))); done) | (first | (with_reducible assumption) | ((try simp (disch := first | omega | (simp only [szW] <;> omega) | fail) only [ceW]) <;> first | (with_reducible assumption) | rfl)))
  have z_s : w.heap.size < wz.heap.size := by rw [← hwz]; (first | (with_reducible assumption) | omega | (simp only [szW] <;> omega) | (simp <;> omega))
  have c_t0 : wz.cell? ⟨w.heap.size + 1, 0, none⟩ = some (.int .i64 S) := by rw [← hwz]; (first | (with_reducible assumption) | ((simp only [World.frozen?_setCell, World.frozen?_drew, World.frozen?_drewN]) <;> (with_reducible assumption)) | ((repeat (first | (with_reducible assumption) | (with_reducible refine World.cell?_setCell_same _ _ _ (by with_reducible assumption)) | (rw [World.cell?_setCell_other _ _ _ _ (by intro e; simp at e; done)]) | (with_reducible refine cell_setCell_block ?_ ?_) | (rw [World.cell?_drew]) | (rw [World.cell?_drewN]) | (dsimp only; omega))); done) | (first | (with_reducible assumption) | ((try simp (disch := first | omega | (simp only [szW] <;> omega) | fail) only [ceW]) <;> first | (with_reducible assumption) | rfl)))
  have c_t1 : wz.cell? ⟨w.heap.size + 1, 1, none⟩ = some (.slice wa' ws'.length wc') := by rw [← hwz]; (first | (with_reducible assumption) | ((simp only [World.frozen?_setCell, World.frozen?_drew, World.frozen?_drewN]) <;> (with_reducible assumption)) | ((repeat (first | (with_reducible assumption) | (with_reducible refine World.cell?_setCell_same _ _ _ (by with_reducible assumption)) | (rw [World.cell?_setCell_other _ _ _ _ (by intro e; simp at e; done)]) | (with_reducible refine cell_setCell_block ?_ ?_) | (rw [World.cell?_drew]) | (rw [World.cell?_drewN]) | (dsimp only; omega))); done) | (first | (with_reducible assumption) | ((try simp (disch := first | omega | (simp only [szW] <;> omega) | fail) only [ceW]) <;> first | (with_reducible assumption) | rfl)))
  have c_t2 : wz.cell? ⟨w.heap.size + 1, 2, none⟩ = some (.slice (some ⟨bk2, ok2, none⟩) SM kc') := by rw [← hwz]; (first | (with_reducible assumption) | ((simp only [World.frozen?_setCell, World.frozen?_drew, World.frozen?_drewN]) <;> (with_reducible assumption)) | ((repeat (first | (with_reducible assumption) | (with_reducible refine World.cell?_setCell_same _ _ _ (by with_reducible assumption)) | (rw [World.cell?_setCell_other _ _ _ _ (by intro e; simp at e; done)]) | (with_reducible refine cell_setCell_block ?_ ?_) | (rw [World.cell?_drew]) | (rw [World.cell?_drewN]) | (dsimp only; omega))); done) | (first | (with_reducible assumption) | ((try simp (disch := first | omega | (simp only [szW] <;> omega) | fail) only [ceW]) <;> first | (with_reducible assumption) | rfl)))
  have c_t3 : wz.cell? ⟨w.heap.size + 1, 3, none⟩ = some (.slice (some ⟨bv2, ov2, none⟩) SM vc') := by rw [← hwz]; (first | (with_reducible assumption) | ((simp only [World.frozen?_setCell, World.frozen?_drew, World.frozen?_drewN]) <;> (with_reducible assumption)) | ((repeat (first | (with_reducible assumption) | (with_reducible refine World.cell?_setCell_same _ _ _ (by with_reducible assumption)) | (rw [World.cell?_setCell_other _ _ _ _ (by intro e; simp at e; done)]) | (with_reducible refine cell_setCell_block ?_ ?_) | (rw [World.cell?_drew]) | (rw [World.cell?_drewN]) | (dsimp only; omega))); done) | (first | (with_reducible assumption) | ((try simp (disch := first | omega | (simp only [szW] <;> omega) | fail) only [ceW]) <;> first | (with_reducible assumption) | rfl)))
  have c_t4 : wz.cell? ⟨w.heap.size + 1, 4, none⟩ = some (.slice ca' cs'.length cc') := by rw [← hwz]; (first | (with_reducible assumption) | ((simp only [World.frozen?_setCell, World.frozen?_drew, World.frozen?_drewN]) <;> (with_reducible assumption)) | ((repeat (first | (with_reducible assumption) | (with_reducible refine World.cell?_setCell_same _ _ _ (by with_reducible assumption)) | (rw [World.cell?_setCell_other _ _ _ _ (by intro e; simp at e; done)]) | (with_reducible refine cell_setCell_block ?_ ?_) | (rw [World.cell?_drew]) | (rw [World.cell?_drewN]) | (dsimp only; omega))); done) | (first | (with_reducible assumption) | ((try simp (disch := first | omega | (simp only [szW] <;> omega) | fail) only [ceW]) <;> first | (with_reducible assumption) | rfl)))
  have c_t5 : wz.cell? ⟨w.heap.size + 1, 5, none⟩ = some (.int .u64 laid') := by rw [← hwz]; (first | (with_reducible assumption) | ((simp only [World.frozen?_setCell, World.frozen?_drew, World.frozen?_drewN]) <;> (with_reducible assumption)) | ((repeat (first | (with_reducible assumption) | (with_reducible refine World.cell?_setCell_same _ _ _ (by with_reducible assumption)) | (rw [World.cell?_setCell_other _ _ _ _ (by intro e; simp at e; done)]) | (with_reducible refine cell_setCell_block ?_ ?_) | (rw [World.cell?_drew]) | (rw [World.cell?_drewN]) | (dsimp only; omega))); done) | (first | (with_reducible assumption) | ((try simp (disch := first | omega | (simp only [szW] <;> omega) | fail) only [ceW]) <;> first | (with_reducible assumption) | rfl)))
  have z_t : w.heap.size + 1 < wz.heap.size := by rw [← hwz]; (first | (with_reducible assumption) | omega | (simp only [szW] <;> omega) | (simp <;> omega))
  have HB0 : Hid (Below w.heap.size w wz) := by rw [← hwz]; exact Lib.hid (((Below.refl _ _).alloc (Nat.le_refl _) _).alloc (by simp) _)
  clear hwz
  have HKS := Lib.hid hkS
  have hp12 : p1 ≤ p2 := by omega
  clear hkS
  go_quiet (fail)
  go_wp2
  go_loopg [9] (p2 - p1) (fun gk iv wr => ∃ i n : Nat, i + gk = p2 ∧ p1 ≤ i ∧ iv = .int .i64 i ∧ wr = wz.drewN n ∧ Hid (∀ j, p1 ≤ j → j < i → bitW ws j = bitW ws' j))
  case atStart => exact ⟨p1, _, by omega, Nat.le_refl _, rfl, rfl, Lib.hid fun j h1 h2 => by omega⟩
  case round =>
    obtain ⟨i, n, hi, hip, rfl, rfl, HE⟩ := hrel
    by_cases hlt : i < p2
    · obtain ⟨q, hq⟩ : ∃ q, i / 64 = q := ⟨_, rfl⟩
      obtain ⟨r, hr⟩ : ∃ r, i % 64 = r := ⟨_, rfl⟩
      have hqI : (i : Int) / 64 = (q : Int) := by omega
      have hrI : (i : Int) % 64 = (r : Int) := by omega
      have hrT : (i : Int).tmod 64 = (r : Int) := by rw [Int.tmod_eq_emod_of_nonneg (by omega)]; omega
      have hqT : (i : Int).tdiv 64 = (q : Int) := by rw [Int.tdiv_eq_ediv_of_nonneg (by omega)]; omega
      have hr64 : r < 64 := by omega
      have hql : q < ws.length := by have := HL.out.1; omega
      have hql' : q < ws'.length := by have := HL.out.2; omega
      have b1 : bitW ws i = bitI (ws.getD q 0) r := by rw [bitW, hq, hr]
      have b2 : bitW ws' i = bitI (ws'.getD q 0) r := by rw [bitW, hq, hr]
      obtain ⟨z, hz, z0, z1, z2⟩ := xor_facts (HU1.out.get q) (HU2.out.get q)
      have hand := bitI_and z0 z1 r
      rw [z2 r, ← b1, ← b2] at hand
      obtain ⟨w1b, w1o, x, rfl, hx, d1, -⟩ := (HC.out.w.below HB0.out).get (i := q) hql
      obtain ⟨w2b, w2o, y, rfl, hy, d2, -⟩ := (HD.out.w.below HB0.out).get (i := q) hql'
      rw [hx.out, hy.out] at hz
      have HI := Lib.hid hi
      have HZZ := Lib.hid (And.intro z0 z1)
      clear b1 b2 z2 z0 z1 hx hy hq hr hi
      by_cases hbe : bitW ws i = bitW ws' i
      · rw [hbe, show (bitW ws' i != bitW ws' i) = false by simp, if_neg (by decide)] at hand
        have HBE := Lib.hid hbe
        clear hbe
        go_wp2
        go_quiet (fail)
        go_wp2
        go_roundg (gk - 1)
        case measure => have := HI.out; omega
        case rel => exact ⟨i + 1, _, by have := HI.out; omega, by omega, by go_num, rfl, Lib.hid fun j j1 j2 => by
          by_cases e : j = i
          · subst e; exact HBE.out
          · exact HE.out j j1 (by omega)⟩
      · rw [show (bitW ws i != bitW ws' i) = true by simpa using hbe, if_pos rfl] at hand
        have HR : Hid (R = false) := Lib.hid (by
          cases R with
          | false => rfl
          | true => exact absurd (HALK.out.1 rfl i hip hlt).1 hbe)
        clear hbe
        go_wp2
        go_quiet (fail)
        go_wp2
        go_ret
        rw [HR.out]
        exact ⟨rfl, below_drewN (below_drewN HB0.out _) _⟩
    · have hin : i = p2 := by omega
      have HE2 : Hid (∀ j, p1 ≤ j → j < p2 → bitW ws j = bitW ws' j) := Lib.hid fun j j1 j2 => HE.out j j1 (by omega)
      subst hin
      obtain ⟨m, hm⟩ : ∃ m, i - p1 = m := ⟨_, rfl⟩
      have hmS : 0 < m := by have := HKS.out; omega
      have hn1 : ¬ kc = p1 := by omega
      have hn2 : ¬ kc' = p1 := by omega
      have hn3 : ¬ vc = p1 := by omega
      have hn4 : ¬ vc' = p1 := by omega
      have L1 : ((ks.drop p1).take m).length = m := by have := HL2.out; simp; omega
      have L2 : ((ks'.drop p1).take m).length = m := by have := HL2.out; simp; omega
      have L3 : ((vs.drop p1).take m).length = m := by have := HL2.out; simp; omega
      have L4 : ((vs'.drop p1).take m).length = m := by have := HL2.out; simp; omega
      have P1 := HC.out.k.part p1 m (by have := HL2.out; dsimp only; omega) hmS
      have P2 := HD.out.k.part p1 m (by have := HL2.out; dsimp only; omega) hmS
      have P3 := HC.out.v.part p1 m (by have := HL2.out; dsimp only; omega) hmS
      have P4 := HD.out.v.part p1 m (by have := HL2.out; dsimp only; omega) hmS
      have EK := Lib.hid (fun W (hb : Below w.heap.size w W) (k1 k2 : Nat) => Equal_int64 _ _ k1 k2 _ _ W (P1.below hb) (P2.below hb) (by rw [L1]; omega))
      have EV := Lib.hid (fun W (hb : Below w.heap.size w W) (k1 k2 : Nat) => Equal_int64 _ _ k1 k2 _ _ W (P3.below hb) (P4.below hb) (by rw [L3]; omega))
      rw [L1, L2] at EK
      rw [L3, L4] at EV
      have HX : Hid (R = (decide ((ks.drop p1).take m = (ks'.drop p1).take m) && decide ((vs.drop p1).take m = (vs'.drop p1).take m))) := Lib.hid (by
        rw [Bool.eq_iff_iff, HALK.out, Bool.and_eq_true, decide_eq_true_eq, decide_eq_true_eq, part_eq (by have := HL2.out; omega) (by have := HL2.out; omega), part_eq (by have := HL2.out; omega) (by have := HL2.out; omega)]
        constructor
        · intro h
          exact ⟨fun j j1 j2 => (h j j1 (by omega)).2.1, fun j j1 j2 => (h j j1 (by omega)).2.2⟩
        · rintro ⟨h1, h2⟩ j j1 j2
          exact ⟨HE2.out j j1 j2, h1 j j1 (by omega), h2 j j1 (by omega)⟩)
      obtain ⟨e1, he1⟩ : ∃ e1, decide ((ks.drop p1).take m = (ks'.drop p1).take m) = e1 := ⟨_, rfl⟩
      obtain ⟨e2, he2⟩ : ∃ e2, decide ((vs.drop p1).take m = (vs'.drop p1).take m) = e2 := ⟨_, rfl⟩
      rw [he1] at EK HX
      rw [he2] at EV HX
      rw [← hm] at EK EV
      have HMI := Lib.hid hm
      clear P1 P2 P3 P4 L1 L2 L3 L4 he1 he2 hm HE HE2 HALK
      have hBn : Below w.heap.size w (wz.drewN n) := below_drewN HB0.out _
      have K1 := Lib.hid (fun d os k1 k2 => Calls.regrown_of (w := wz.drewN n) (d := d) (os := os) ((EK.out _ (below_via (below_regrown (wz.drewN n) d os) hBn hBn.size) k1 k2).mono fun _ _ ⟨h1, n2, h2⟩ => ⟨h1, by rw [h2]; exact below_drewN (Below.refl _ _) _⟩))
      have K2 := Lib.hid (fun d os k1 k2 => Calls.regrown_of (w := wz.drewN n) (d := d) (os := os) ((EV.out _ (below_via (below_regrown (wz.drewN n) d os) hBn hBn.size) k1 k2).mono fun _ _ ⟨h1, n2, h2⟩ => ⟨h1, by rw [h2]; exact below_drewN (Below.refl _ _) _⟩))
      have s2 := cell_regrown (w := wz.drewN n) c_s2
      have s3 := cell_regrown (w := wz.drewN n) c_s3
      have u2 := cell_regrown (w := wz.drewN n) c_t2
      have u3 := cell_regrown (w := wz.drewN n) c_t3
      clear EK EV
      go_wp2
      cases e1 with
      | true =>
        refine wp_region_quiet_below (by kernel_rfl) (by kernel_rfl) ?_
        repeat (go_big_quiet_step (first | (with_reducible exact K1.out _ _ _ _) | (with_reducible exact K2.out _ _ _ _)))
        refine wpQuiet_nil ?_
        intro _ hw'
        obtain ⟨⟨dq, osq⟩, hw''⟩ := hw'
        subst hw''
        have hb7 := below_regrown (wz.drewN n) dq osq
        clear s2 s3 u2 u3
        generalize Sort.grow (redrawn (wz.drewN n) dq) osq = w7 at *
        have hB7 : Below w.heap.size w w7 := below_via hb7 hBn hBn.size
        go_wp2
        go_ret
        exact ⟨by rw [HX.out]; simp, hB7⟩
      | false =>
        refine wp_region_quiet_below (by kernel_rfl) (by kernel_rfl) ?_
        repeat (go_big_quiet_step (first | (with_reducible exact K1.out _ _ _ _) | (with_reducible exact K2.out _ _ _ _)))
        refine wpQuiet_nil ?_
        intro _ hw'
        obtain ⟨⟨dq, osq⟩, hw''⟩ := hw'
        subst hw''
        have hb7 := below_regrown (wz.drewN n) dq osq
        clear s2 s3 u2 u3
        generalize Sort.grow (redrawn (wz.drewN n) dq) osq = w7 at *
        have hB7 : Below w.heap.size w w7 := below_via hb7 hBn hBn.size
        go_wp2
        go_ret
        exact ⟨by rw [HX.out]; simp, hB7⟩
end

section
open Go.RowKit Go.Shelf

set_option maxRecDepth 100000 in
set_option maxHeartbeats 2000000 in
theorem Tu_no1 (seg seg' laid laid' : Int) (wa ka va ca wa' ka' va' ca' : Option Addr) (wc kc vc cc wc' kc' vc' cc' lw lk lv lc lw' lk' lv' lc' : Nat) (y z : Int) (hy : y ≠ 0) (w : World)
    (C1 : Hid (∀ W, Below w.heap.size w W → Calls Try.prog 33 #[.agg #[.int .i64 seg, .slice wa lw wc, .slice ka lk kc, .slice va lv vc, .slice ca lc cc, .int .u64 laid]] W (AnsB W (.int .i64 y))))
    (C2 : Hid (∀ W, Below w.heap.size w W → Calls Try.prog 33 #[(.agg #[.int .i64 seg', .slice wa' lw' wc', .slice ka' lk' kc', .slice va' lv' vc', .slice ca' lc' cc', .int .u64 laid'])] W (AnsB W (.int .i64 z)))) :
    Calls Try.prog 13 #[.agg #[.int .i64 seg, .slice wa lw wc, .slice ka lk kc, .slice va lv vc, .slice ca lc cc, .int .u64 laid], (.agg #[.int .i64 seg', .slice wa' lw' wc', .slice ka' lk' kc', .slice va' lv' vc', .slice ca' lc' cc', .int .u64 laid'])] w (AnsB w (.tuple #[.int .i64 0, .int .i64 0, .int .i64 y])) := by
  have g1 : (y != 0) = true := by simpa using hy
  clear hy
  go_enter Try.func13, Try.ntmps13
  go_wp2_with fail
  refine (C1.out _ (((Below.refl _ _).alloc (Nat.le_refl _) _).alloc (by simp) _)).mono ?_
  rintro e w1 ⟨rfl, hb1⟩
  have hz_w1 := hb1.size
  try simp only [World.size_alloc, World.size_setCell] at hz_w1
  have all_c : w1.cell? ⟨w.heap.size, 0, none⟩ = some (.int .i64 seg) ∧ w1.cell? ⟨w.heap.size, 1, none⟩ = some (.slice wa lw wc) ∧ w1.cell? ⟨w.heap.size, 2, none⟩ = some (.slice ka lk kc) ∧ w1.cell? ⟨w.heap.size, 3, none⟩ = some (.slice va lv vc) ∧ w1.cell? ⟨w.heap.size, 4, none⟩ = some (.slice ca lc cc) ∧ w1.cell? ⟨w.heap.size, 5, none⟩ = some (.int .u64 laid) ∧ w1.cell? ⟨w.heap.size + 1, 0, none⟩ = some (.int .i64 seg') ∧ w1.cell? ⟨w.heap.size + 1, 1, none⟩ = some (.slice wa' lw' wc') ∧ w1.cell? ⟨w.heap.size + 1, 2, none⟩ = some (.slice ka' lk' kc') ∧ w1.cell? ⟨w.heap.size + 1, 3, none⟩ = some (.slice va' lv' vc') ∧ w1.cell? ⟨w.heap.size + 1, 4, none⟩ = some (.slice ca' lc' cc') ∧ w1.cell? ⟨w.heap.size + 1, 5, none⟩ = some (.int .u64 laid') := by refine ⟨?_, ?_, ?_, ?_, ?_, ?_, ?_, ?_, ?_, ?_, ?_, ?_⟩ <;> (refine (hb1.cell ?_).trans ?_ <;> first | (first | (with_reducible assumption) | omega | (simp only [szW] <;> omega) | (simp <;> omega)) | (first | (with_reducible assumption) | ((try simp (disch := first | omega | (simp only [szW] <;> omega) | fail) only [ceW]) <;> first | (with_reducible assumption) | rfl)))
  have all_z : w.heap.size < w1.heap.size ∧ w.heap.size + 1 < w1.heap.size := by refine ⟨?_, ?_⟩ <;> (omega)
  obtain ⟨c_s0, c_s1, c_s2, c_s3, c_s4, c_s5, c_t0, c_t1, c_t2, c_t3, c_t4, c_t5⟩ := all_c
  try clear all_c
  obtain ⟨z_s, z_t⟩ := all_z
  try clear all_z
  have hB1 : Below w.heap.size w w1 := by (repeat (first | with_reducible (first | exact Below.refl _ _ | assumption | exact Hid.out (by assumption) | refine Below.alloc ?_ ?_ _ | refine Below.setCell ?_ ?_ _ | refine below_drewN ?_ _ | refine Below.drew ?_ | refine below_via (by assumption) ?_ ?_) | (first | (with_reducible assumption) | omega | (simp only [szW] <;> omega) | (simp <;> omega))))
  go_wp2
  go_ret3
  exact ⟨rfl, hB1⟩

set_option maxRecDepth 100000 in
set_option maxHeartbeats 2000000 in
theorem Tu_no2 (seg seg' laid laid' : Int) (wa ka va ca wa' ka' va' ca' : Option Addr) (wc kc vc cc wc' kc' vc' cc' lw lk lv lc lw' lk' lv' lc' : Nat) (y : Int) (hy : y ≠ 0) (w : World)
    (C1 : Hid (∀ W, Below w.heap.size w W → Calls Try.prog 33 #[.agg #[.int .i64 seg, .slice wa lw wc, .slice ka lk kc, .slice va lv vc, .slice ca lc cc, .int .u64 laid]] W (AnsB W (.int .i64 0))))
    (C2 : Hid (∀ W, Below w.heap.size w W → Calls Try.prog 33 #[(.agg #[.int .i64 seg', .slice wa' lw' wc', .slice ka' lk' kc', .slice va' lv' vc', .slice ca' lc' cc', .int .u64 laid'])] W (AnsB W (.int .i64 y)))) :
    Calls Try.prog 13 #[.agg #[.int .i64 seg, .slice wa lw wc, .slice ka lk kc, .slice va lv vc, .slice ca lc cc, .int .u64 laid], (.agg #[.int .i64 seg', .slice wa' lw' wc', .slice ka' lk' kc', .slice va' lv' vc', .slice ca' lc' cc', .int .u64 laid'])] w (AnsB w (.tuple #[.int .i64 0, .int .i64 0, .int .i64 y])) := by
  have g1 : (y != 0) = true := by simpa using hy
  clear hy
  go_enter Try.func13, Try.ntmps13
  go_wp2_with fail
  refine (C1.out _ (((Below.refl _ _).alloc (Nat.le_refl _) _).alloc (by simp) _)).mono ?_
  rintro e w1 ⟨rfl, hb1⟩
  have hz_w1 := hb1.size
  try simp only [World.size_alloc, World.size_setCell] at hz_w1
  have all_c : w1.cell? ⟨w.heap.size, 0, none⟩ = some (.int .i64 seg) ∧ w1.cell? ⟨w.heap.size, 1, none⟩ = some (.slice wa lw wc) ∧ w1.cell? ⟨w.heap.size, 2, none⟩ = some (.slice ka lk kc) ∧ w1.cell? ⟨w.heap.size, 3, none⟩ = some (.slice va lv vc) ∧ w1.cell? ⟨w.heap.size, 4, none⟩ = some (.slice ca lc cc) ∧ w1.cell? ⟨w.heap.size, 5, none⟩ = some (.int .u64 laid) ∧ w1.cell? ⟨w.heap.size + 1, 0, none⟩ = some (.int .i64 seg') ∧ w1.cell? ⟨w.heap.size + 1, 1, none⟩ = some (.slice wa' lw' wc') ∧ w1.cell? ⟨w.heap.size + 1, 2, none⟩ = some (.slice ka' lk' kc') ∧ w1.cell? ⟨w.heap.size + 1, 3, none⟩ = some (.slice va' lv' vc') ∧ w1.cell? ⟨w.heap.size + 1, 4, none⟩ = some (.slice ca' lc' cc') ∧ w1.cell? ⟨w.heap.size + 1, 5, none⟩ = some (.int .u64 laid') := by refine ⟨?_, ?_, ?_, ?_, ?_, ?_, ?_, ?_, ?_, ?_, ?_, ?_⟩ <;> (refine (hb1.cell ?_).trans ?_ <;> first | (first | (with_reducible assumption) | omega | (simp only [szW] <;> omega) | (simp <;> omega)) | (first | (with_reducible assumption) | ((try simp (disch := first | omega | (simp only [szW] <;> omega) | fail) only [ceW]) <;> first | (with_reducible assumption) | rfl)))
  have all_z : w.heap.size < w1.heap.size ∧ w.heap.size + 1 < w1.heap.size := by refine ⟨?_, ?_⟩ <;> (omega)
  obtain ⟨c_s0, c_s1, c_s2, c_s3, c_s4, c_s5, c_t0, c_t1, c_t2, c_t3, c_t4, c_t5⟩ := all_c
  try clear all_c
  obtain ⟨z_s, z_t⟩ := all_z
  try clear all_z
  have hB1 : Below w.heap.size w w1 := by (repeat (first | with_reducible (first | exact Below.refl _ _ | assumption | exact Hid.out (by assumption) | refine Below.alloc ?_ ?_ _ | refine Below.setCell ?_ ?_ _ | refine below_drewN ?_ _ | refine Below.drew ?_ | refine below_via (by assumption) ?_ ?_) | (first | (with_reducible assumption) | omega | (simp only [szW] <;> omega) | (simp <;> omega))))
  go_wp2_with fail
  refine (C2.out _ hB1).mono ?_
  rintro e w2 ⟨rfl, hb2⟩
  have hz_w2 := hb2.size
  try simp only [World.size_alloc, World.size_setCell] at hz_w2
  have all_c : w2.cell? ⟨w.heap.size, 0, none⟩ = some (.int .i64 seg) ∧ w2.cell? ⟨w.heap.size, 1, none⟩ = some (.slice wa lw wc) ∧ w2.cell? ⟨w.heap.size, 2, none⟩ = some (.slice ka lk kc) ∧ w2.cell? ⟨w.heap.size, 3, none⟩ = some (.slice va lv vc) ∧ w2.cell? ⟨w.heap.size, 4, none⟩ = some (.slice ca lc cc) ∧ w2.cell? ⟨w.heap.size, 5, none⟩ = some (.int .u64 laid) ∧ w2.cell? ⟨w.heap.size + 1, 0, none⟩ = some (.int .i64 seg') ∧ w2.cell? ⟨w.heap.size + 1, 1, none⟩ = some (.slice wa' lw' wc') ∧ w2.cell? ⟨w.heap.size + 1, 2, none⟩ = some (.slice ka' lk' kc') ∧ w2.cell? ⟨w.heap.size + 1, 3, none⟩ = some (.slice va' lv' vc') ∧ w2.cell? ⟨w.heap.size + 1, 4, none⟩ = some (.slice ca' lc' cc') ∧ w2.cell? ⟨w.heap.size + 1, 5, none⟩ = some (.int .u64 laid') := by refine ⟨?_, ?_, ?_, ?_, ?_, ?_, ?_, ?_, ?_, ?_, ?_, ?_⟩ <;> (refine (hb2.cell ?_).trans ?_ <;> first | (first | (with_reducible assumption) | omega | (simp only [szW] <;> omega) | (simp <;> omega)) | (first | (with_reducible assumption) | ((try simp (disch := first | omega | (simp only [szW] <;> omega) | fail) only [ceW]) <;> first | (with_reducible assumption) | rfl)))
  have all_z : w.heap.size < w2.heap.size ∧ w.heap.size + 1 < w2.heap.size := by refine ⟨?_, ?_⟩ <;> (omega)
  clear c_s0 c_s1 c_s2 c_s3 c_s4 c_s5 c_t0 c_t1 c_t2 c_t3 c_t4 c_t5 z_s z_t
  obtain ⟨c_s0, c_s1, c_s2, c_s3, c_s4, c_s5, c_t0, c_t1, c_t2, c_t3, c_t4, c_t5⟩ := all_c
  try clear all_c
  obtain ⟨z_s, z_t⟩ := all_z
  try clear all_z
  have hB2 : Below w.heap.size w w2 := by (repeat (first | with_reducible (first | exact Below.refl _ _ | assumption | exact Hid.out (by assumption) | refine Below.alloc ?_ ?_ _ | refine Below.setCell ?_ ?_ _ | refine below_drewN ?_ _ | refine Below.drew ?_ | refine below_via (by assumption) ?_ ?_) | (first | (with_reducible assumption) | omega | (simp only [szW] <;> omega) | (simp <;> omega))))
  go_wp2
  go_ret3
  exact ⟨rfl, hB2⟩

set_option maxRecDepth 100000 in
set_option maxHeartbeats 2000000 in
theorem Tu_no3 (seg seg' laid laid' : Int) (wa ka va ca wa' ka' va' ca' : Option Addr) (wc kc vc cc wc' kc' vc' cc' lw lk lv lc lw' lk' lv' lc' : Nat) (h : seg ≠ seg' ∨ (seg = seg' ∧ lk ≠ lk')) (w : World)
    (C1 : Hid (∀ W, Below w.heap.size w W → Calls Try.prog 33 #[.agg #[.int .i64 seg, .slice wa lw wc, .slice ka lk kc, .slice va lv vc, .slice ca lc cc, .int .u64 laid]] W (AnsB W (.int .i64 0))))
    (C2 : Hid (∀ W, Below w.heap.size w W → Calls Try.prog 33 #[(.agg #[.int .i64 seg', .slice wa' lw' wc', .slice ka' lk' kc', .slice va' lv' vc', .slice ca' lc' cc', .int .u64 laid'])] W (AnsB W (.int .i64 0)))) :
    Calls Try.prog 13 #[.agg #[.int .i64 seg, .slice wa lw wc, .slice ka lk kc, .slice va lv vc, .slice ca lc cc, .int .u64 laid], (.agg #[.int .i64 seg', .slice wa' lw' wc', .slice ka' lk' kc', .slice va' lv' vc', .slice ca' lc' cc', .int .u64 laid'])] w (AnsB w (.tuple #[.int .i64 0, .int .i64 0, .int .i64 2])) := by
  rcases h with h | ⟨rfl, h⟩
  · have g1 : (seg != seg') = true := by simpa using h
    clear h
    go_enter Try.func13, Try.ntmps13
    go_wp2_with fail
    refine (C1.out _ (((Below.refl _ _).alloc (Nat.le_refl _) _).alloc (by simp) _)).mono ?_
    rintro e w1 ⟨rfl, hb1⟩
    have hz_w1 := hb1.size
    try simp only [World.size_alloc, World.size_setCell] at hz_w1
    have all_c : w1.cell? ⟨w.heap.size, 0, none⟩ = some (.int .i64 seg) ∧ w1.cell? ⟨w.heap.size, 1, none⟩ = some (.slice wa lw wc) ∧ w1.cell? ⟨w.heap.size, 2, none⟩ = some (.slice ka lk kc) ∧ w1.cell? ⟨w.heap.size, 3, none⟩ = some (.slice va lv vc) ∧ w1.cell? ⟨w.heap.size, 4, none⟩ = some (.slice ca lc cc) ∧ w1.cell? ⟨w.heap.size, 5, none⟩ = some (.int .u64 laid) ∧ w1.cell? ⟨w.heap.size + 1, 0, none⟩ = some (.int .i64 seg') ∧ w1.cell? ⟨w.heap.size + 1, 1, none⟩ = some (.slice wa' lw' wc') ∧ w1.cell? ⟨w.heap.size + 1, 2, none⟩ = some (.slice ka' lk' kc') ∧ w1.cell? ⟨w.heap.size + 1, 3, none⟩ = some (.slice va' lv' vc') ∧ w1.cell? ⟨w.heap.size + 1, 4, none⟩ = some (.slice ca' lc' cc') ∧ w1.cell? ⟨w.heap.size + 1, 5, none⟩ = some (.int .u64 laid') := by refine ⟨?_, ?_, ?_, ?_, ?_, ?_, ?_, ?_, ?_, ?_, ?_, ?_⟩ <;> (refine (hb1.cell ?_).trans ?_ <;> first | (first | (with_reducible assumption) | omega | (simp only [szW] <;> omega) | (simp <;> omega)) | (first | (with_reducible assumption) | ((try simp (disch := first | omega | (simp only [szW] <;> omega) | fail) only [ceW]) <;> first | (with_reducible assumption) | rfl)))
    have all_z : w.heap.size < w1.heap.size ∧ w.heap.size + 1 < w1.heap.size := by refine ⟨?_, ?_⟩ <;> (omega)
    obtain ⟨c_s0, c_s1, c_s2, c_s3, c_s4, c_s5, c_t0, c_t1, c_t2, c_t3, c_t4, c_t5⟩ := all_c
    try clear all_c
    obtain ⟨z_s, z_t⟩ := all_z
    try clear all_z
    have hB1 : Below w.heap.size w w1 := by (repeat (first | with_reducible (first | exact Below.refl _ _ | assumption | exact Hid.out (by assumption) | refine Below.alloc ?_ ?_ _ | refine Below.setCell ?_ ?_ _ | refine below_drewN ?_ _ | refine Below.drew ?_ | refine below_via (by assumption) ?_ ?_) | (first | (with_reducible assumption) | omega | (simp only [szW] <;> omega) | (simp <;> omega))))
    go_wp2_with fail
    refine (C2.out _ hB1).mono ?_
    rintro e w2 ⟨rfl, hb2⟩
    have hz_w2 := hb2.size
    try simp only [World.size_alloc, World.size_setCell] at hz_w2
    have all_c : w2.cell? ⟨w.heap.size, 0, none⟩ = some (.int .i64 seg) ∧ w2.cell? ⟨w.heap.size, 1, none⟩ = some (.slice wa lw wc) ∧ w2.cell? ⟨w.heap.size, 2, none⟩ = some (.slice ka lk kc) ∧ w2.cell? ⟨w.heap.size, 3, none⟩ = some (.slice va lv vc) ∧ w2.cell? ⟨w.heap.size, 4, none⟩ = some (.slice ca lc cc) ∧ w2.cell? ⟨w.heap.size, 5, none⟩ = some (.int .u64 laid) ∧ w2.cell? ⟨w.heap.size + 1, 0, none⟩ = some (.int .i64 seg') ∧ w2.cell? ⟨w.heap.size + 1, 1, none⟩ = some (.slice wa' lw' wc') ∧ w2.cell? ⟨w.heap.size + 1, 2, none⟩ = some (.slice ka' lk' kc') ∧ w2.cell? ⟨w.heap.size + 1, 3, none⟩ = some (.slice va' lv' vc') ∧ w2.cell? ⟨w.heap.size + 1, 4, none⟩ = some (.slice ca' lc' cc') ∧ w2.cell? ⟨w.heap.size + 1, 5, none⟩ = some (.int .u64 laid') := by refine ⟨?_, ?_, ?_, ?_, ?_, ?_, ?_, ?_, ?_, ?_, ?_, ?_⟩ <;> (refine (hb2.cell ?_).trans ?_ <;> first | (first | (with_reducible assumption) | omega | (simp only [szW] <;> omega) | (simp <;> omega)) | (first | (with_reducible assumption) | ((try simp (disch := first | omega | (simp only [szW] <;> omega) | fail) only [ceW]) <;> first | (with_reducible assumption) | rfl)))
    have all_z : w.heap.size < w2.heap.size ∧ w.heap.size + 1 < w2.heap.size := by refine ⟨?_, ?_⟩ <;> (omega)
    clear c_s0 c_s1 c_s2 c_s3 c_s4 c_s5 c_t0 c_t1 c_t2 c_t3 c_t4 c_t5 z_s z_t
    obtain ⟨c_s0, c_s1, c_s2, c_s3, c_s4, c_s5, c_t0, c_t1, c_t2, c_t3, c_t4, c_t5⟩ := all_c
    try clear all_c
    obtain ⟨z_s, z_t⟩ := all_z
    try clear all_z
    have hB2 : Below w.heap.size w w2 := by (repeat (first | with_reducible (first | exact Below.refl _ _ | assumption | exact Hid.out (by assumption) | refine Below.alloc ?_ ?_ _ | refine Below.setCell ?_ ?_ _ | refine below_drewN ?_ _ | refine Below.drew ?_ | refine below_via (by assumption) ?_ ?_) | (first | (with_reducible assumption) | omega | (simp only [szW] <;> omega) | (simp <;> omega))))
    go_wp2
    go_ret3
    exact ⟨rfl, hB2⟩
  · have g1 : (seg != seg) = false := by simp
    have g2 : ((lk : Int) != (lk' : Int)) = true := by simp; omega
    clear h
    go_enter Try.func13, Try.ntmps13
    go_wp2_with fail
    refine (C1.out _ (((Below.refl _ _).alloc (Nat.le_refl _) _).alloc (by simp) _)).mono ?_
    rintro e w1 ⟨rfl, hb1⟩
    have hz_w1 := hb1.size
    try simp only [World.size_alloc, World.size_setCell] at hz_w1
    have all_c : w1.cell? ⟨w.heap.size, 0, none⟩ = some (.int .i64 seg) ∧ w1.cell? ⟨w.heap.size, 1, none⟩ = some (.slice wa lw wc) ∧ w1.cell? ⟨w.heap.size, 2, none⟩ = some (.slice ka lk kc) ∧ w1.cell? ⟨w.heap.size, 3, none⟩ = some (.slice va lv vc) ∧ w1.cell? ⟨w.heap.size, 4, none⟩ = some (.slice ca lc cc) ∧ w1.cell? ⟨w.heap.size, 5, none⟩ = some (.int .u64 laid) ∧ w1.cell? ⟨w.heap.size + 1, 0, none⟩ = some (.int .i64 seg) ∧ w1.cell? ⟨w.heap.size + 1, 1, none⟩ = some (.slice wa' lw' wc') ∧ w1.cell? ⟨w.heap.size + 1, 2, none⟩ = some (.slice ka' lk' kc') ∧ w1.cell? ⟨w.heap.size + 1, 3, none⟩ = some (.slice va' lv' vc') ∧ w1.cell? ⟨w.heap.size + 1, 4, none⟩ = some (.slice ca' lc' cc') ∧ w1.cell? ⟨w.heap.size + 1, 5, none⟩ = some (.int .u64 laid') := by refine ⟨?_, ?_, ?_, ?_, ?_, ?_, ?_, ?_, ?_, ?_, ?_, ?_⟩ <;> (refine (hb1.cell ?_).trans ?_ <;> first | (first | (with_reducible assumption) | omega | (simp only [szW] <;> omega) | (simp <;> omega)) | (first | (with_reducible assumption) | ((try simp (disch := first | omega | (simp only [szW] <;> omega) | fail) only [ceW]) <;> first | (with_reducible assumption) | rfl)))
    have all_z : w.heap.size < w1.heap.size ∧ w.heap.size + 1 < w1.heap.size := by refine ⟨?_, ?_⟩ <;> (omega)
    obtain ⟨c_s0, c_s1, c_s2, c_s3, c_s4, c_s5, c_t0, c_t1, c_t2, c_t3, c_t4, c_t5⟩ := all_c
    try clear all_c
    obtain ⟨z_s, z_t⟩ := all_z
    try clear all_z
    have hB1 : Below w.heap.size w w1 := by (repeat (first | with_reducible (first | exact Below.refl _ _ | assumption | exact Hid.out (by assumption) | refine Below.alloc ?_ ?_ _ | refine Below.setCell ?_ ?_ _ | refine below_drewN ?_ _ | refine Below.drew ?_ | refine below_via (by assumption) ?_ ?_) | (first | (with_reducible assumption) | omega | (simp only [szW] <;> omega) | (simp <;> omega))))
    go_wp2_with fail
    refine (C2.out _ hB1).mono ?_
    rintro e w2 ⟨rfl, hb2⟩
    have hz_w2 := hb2.size
    try simp only [World.size_alloc, World.size_setCell] at hz_w2
    have all_c : w2.cell? ⟨w.heap.size, 0, none⟩ = some (.int .i64 seg) ∧ w2.cell? ⟨w.heap.size, 1, none⟩ = some (.slice wa lw wc) ∧ w2.cell? ⟨w.heap.size, 2, none⟩ = some (.slice ka lk kc) ∧ w2.cell? ⟨w.heap.size, 3, none⟩ = some (.slice va lv vc) ∧ w2.cell? ⟨w.heap.size, 4, none⟩ = some (.slice ca lc cc) ∧ w2.cell? ⟨w.heap.size, 5, none⟩ = some (.int .u64 laid) ∧ w2.cell? ⟨w.heap.size + 1, 0, none⟩ = some (.int .i64 seg) ∧ w2.cell? ⟨w.heap.size + 1, 1, none⟩ = some (.slice wa' lw' wc') ∧ w2.cell? ⟨w.heap.size + 1, 2, none⟩ = some (.slice ka' lk' kc') ∧ w2.cell? ⟨w.heap.size + 1, 3, none⟩ = some (.slice va' lv' vc') ∧ w2.cell? ⟨w.heap.size + 1, 4, none⟩ = some (.slice ca' lc' cc') ∧ w2.cell? ⟨w.heap.size + 1, 5, none⟩ = some (.int .u64 laid') := by refine ⟨?_, ?_, ?_, ?_, ?_, ?_, ?_, ?_, ?_, ?_, ?_, ?_⟩ <;> (refine (hb2.cell ?_).trans ?_ <;> first | (first | (with_reducible assumption) | omega | (simp only [szW] <;> omega) | (simp <;> omega)) | (first | (with_reducible assumption) | ((try simp (disch := first | omega | (simp only [szW] <;> omega) | fail) only [ceW]) <;> first | (with_reducible assumption) | rfl)))
    have all_z : w.heap.size < w2.heap.size ∧ w.heap.size + 1 < w2.heap.size := by refine ⟨?_, ?_⟩ <;> (omega)
    clear c_s0 c_s1 c_s2 c_s3 c_s4 c_s5 c_t0 c_t1 c_t2 c_t3 c_t4 c_t5 z_s z_t
    obtain ⟨c_s0, c_s1, c_s2, c_s3, c_s4, c_s5, c_t0, c_t1, c_t2, c_t3, c_t4, c_t5⟩ := all_c
    try clear all_c
    obtain ⟨z_s, z_t⟩ := all_z
    try clear all_z
    have hB2 : Below w.heap.size w w2 := by (repeat (first | with_reducible (first | exact Below.refl _ _ | assumption | exact Hid.out (by assumption) | refine Below.alloc ?_ ?_ _ | refine Below.setCell ?_ ?_ _ | refine below_drewN ?_ _ | refine Below.drew ?_ | refine below_via (by assumption) ?_ ?_) | (first | (with_reducible assumption) | omega | (simp only [szW] <;> omega) | (simp <;> omega))))
    go_wp2
    go_ret3
    exact ⟨rfl, hB2⟩

set_option maxRecDepth 100000 in
set_option maxHeartbeats 4000000 in
theorem Tu_core (seg laid laid' : Int) (wa ka va ca wa' ka' va' ca' : Option Addr) (wc kc vc cc wc' kc' vc' cc' lw lk lv lw' lv' lc' M : Nat) (c d : SlC) (S : Nat) (hM : M ≤ 16384) (w : World)
    (C1 : Hid (∀ W, Below w.heap.size w W → Calls Try.prog 33 #[.agg #[.int .i64 seg, .slice wa lw wc, .slice ka lk kc, .slice va lv vc, .slice ca M cc, .int .u64 laid]] W (AnsB W (.int .i64 0))))
    (C2 : Hid (∀ W, Below w.heap.size w W → Calls Try.prog 33 #[(.agg #[.int .i64 seg, .slice wa' lw' wc', .slice ka' lk kc', .slice va' lv' vc', .slice ca' lc' cc', .int .u64 laid'])] W (AnsB W (.int .i64 0))))
    (AL : Hid (∀ k W, k < M → Below w.heap.size w W → Calls Try.prog 34 #[.agg #[.int .i64 seg, .slice wa lw wc, .slice ka lk kc, .slice va lv vc, .slice ca M cc, .int .u64 laid], (.agg #[.int .i64 seg, .slice wa' lw' wc', .slice ka' lk kc', .slice va' lv' vc', .slice ca' lc' cc', .int .u64 laid']), .int .i64 (k : Nat)] W (AnsB W (.bool (alkB c d S k))))) :
    Calls Try.prog 13 #[.agg #[.int .i64 seg, .slice wa lw wc, .slice ka lk kc, .slice va lv vc, .slice ca M cc, .int .u64 laid], (.agg #[.int .i64 seg, .slice wa' lw' wc', .slice ka' lk kc', .slice va' lv' vc', .slice ca' lc' cc', .int .u64 laid'])] w (AnsB w (.tuple #[.int .i64 (tuF c d S M : Nat), .int .i64 (tuT c d S M : Nat), .int .i64 0])) := by
  have g1 : (seg != seg) = false := by simp
  have g2 : ((lk : Int) != (lk : Int)) = false := by simp
  obtain ⟨X, hX⟩ : ∃ X, tuF c d S M = X := ⟨_, rfl⟩
  obtain ⟨Y, hY⟩ : ∃ Y, tuT c d S M = Y := ⟨_, rfl⟩
  have HX := Lib.hid (And.intro hX hY)
  rw [hX, hY]
  clear hX hY
  go_enter Try.func13, Try.ntmps13
  go_wp2_with fail
  refine (C1.out _ (((Below.refl _ _).alloc (Nat.le_refl _) _).alloc (by simp) _)).mono ?_
  rintro e w1 ⟨rfl, hb1⟩
  have hz_w1 := hb1.size
  try simp only [World.size_alloc, World.size_setCell] at hz_w1
  have all_c : w1.cell? ⟨w.heap.size, 0, none⟩ = some (.int .i64 seg) ∧ w1.cell? ⟨w.heap.size, 1, none⟩ = some (.slice wa lw wc) ∧ w1.cell? ⟨w.heap.size, 2, none⟩ = some (.slice ka lk kc) ∧ w1.cell? ⟨w.heap.size, 3, none⟩ = some (.slice va lv vc) ∧ w1.cell? ⟨w.heap.size, 4, none⟩ = some (.slice ca M cc) ∧ w1.cell? ⟨w.heap.size, 5, none⟩ = some (.int .u64 laid) ∧ w1.cell? ⟨w.heap.size + 1, 0, none⟩ = some (.int .i64 seg) ∧ w1.cell? ⟨w.heap.size + 1, 1, none⟩ = some (.slice wa' lw' wc') ∧ w1.cell? ⟨w.heap.size + 1, 2, none⟩ = some (.slice ka' lk kc') ∧ w1.cell? ⟨w.heap.size + 1, 3, none⟩ = some (.slice va' lv' vc') ∧ w1.cell? ⟨w.heap.size + 1, 4, none⟩ = some (.slice ca' lc' cc') ∧ w1.cell? ⟨w.heap.size + 1, 5, none⟩ = some (.int .u64 laid') := by refine ⟨?_, ?_, ?_, ?_, ?_, ?_, ?_, ?_, ?_, ?_, ?_, ?_⟩ <;> (refine (hb1.cell ?_).trans ?_ <;> first | (first | (with_reducible assumption) | omega | (simp only [szW] <;> omega) | (simp <;> omega)) | (first | (with_reducible assumption) | ((try simp (disch := first | omega | (simp only [szW] <;> omega) | fail) only [ceW]) <;> first | (with_reducible assumption) | rfl)))
  have all_z : w.heap.size < w1.heap.size ∧ w.heap.size + 1 < w1.heap.size := by refine ⟨?_, ?_⟩ <;> (omega)
  obtain ⟨c_s0, c_s1, c_s2, c_s3, c_s4, c_s5, c_t0, c_t1, c_t2, c_t3, c_t4, c_t5⟩ := all_c
  try clear all_c
  obtain ⟨z_s, z_t⟩ := all_z
  try clear all_z
  have hB1 : Below w.heap.size w w1 := by (repeat (first | with_reducible (first | exact Below.refl _ _ | assumption | exact Hid.out (by assumption) | refine Below.alloc ?_ ?_ _ | refine Below.setCell ?_ ?_ _ | refine below_drewN ?_ _ | refine Below.drew ?_ | refine below_via (by assumption) ?_ ?_) | (first | (with_reducible assumption) | omega | (simp only [szW] <;> omega) | (simp <;> omega))))
  go_wp2_with fail
  refine (C2.out _ hB1).mono ?_
  rintro e w2 ⟨rfl, hb2⟩
  have hz_w2 := hb2.size
  try simp only [World.size_alloc, World.size_setCell] at hz_w2
  have all_c : w2.cell? ⟨w.heap.size, 0, none⟩ = some (.int .i64 seg) ∧ w2.cell? ⟨w.heap.size, 1, none⟩ = some (.slice wa lw wc) ∧ w2.cell? ⟨w.heap.size, 2, none⟩ = some (.slice ka lk kc) ∧ w2.cell? ⟨w.heap.size, 3, none⟩ = some (.slice va lv vc) ∧ w2.cell? ⟨w.heap.size, 4, none⟩ = some (.slice ca M cc) ∧ w2.cell? ⟨w.heap.size, 5, none⟩ = some (.int .u64 laid) ∧ w2.cell? ⟨w.heap.size + 1, 0, none⟩ = some (.int .i64 seg) ∧ w2.cell? ⟨w.heap.size + 1, 1, none⟩ = some (.slice wa' lw' wc') ∧ w2.cell? ⟨w.heap.size + 1, 2, none⟩ = some (.slice ka' lk kc') ∧ w2.cell? ⟨w.heap.size + 1, 3, none⟩ = some (.slice va' lv' vc') ∧ w2.cell? ⟨w.heap.size + 1, 4, none⟩ = some (.slice ca' lc' cc') ∧ w2.cell? ⟨w.heap.size + 1, 5, none⟩ = some (.int .u64 laid') := by refine ⟨?_, ?_, ?_, ?_, ?_, ?_, ?_, ?_, ?_, ?_, ?_, ?_⟩ <;> (refine (hb2.cell ?_).trans ?_ <;> first | (first | (with_reducible assumption) | omega | (simp only [szW] <;> omega) | (simp <;> omega)) | (first | (with_reducible assumption) | ((try simp (disch := first | omega | (simp only [szW] <;> omega) | fail) only [ceW]) <;> first | (with_reducible assumption) | rfl)))
  have all_z : w.heap.size < w2.heap.size ∧ w.heap.size + 1 < w2.heap.size := by refine ⟨?_, ?_⟩ <;> (omega)
  clear c_s0 c_s1 c_s2 c_s3 c_s4 c_s5 c_t0 c_t1 c_t2 c_t3 c_t4 c_t5 z_s z_t
  obtain ⟨c_s0, c_s1, c_s2, c_s3, c_s4, c_s5, c_t0, c_t1, c_t2, c_t3, c_t4, c_t5⟩ := all_c
  try clear all_c
  obtain ⟨z_s, z_t⟩ := all_z
  try clear all_z
  have hB2 : Below w.heap.size w w2 := by (repeat (first | with_reducible (first | exact Below.refl _ _ | assumption | exact Hid.out (by assumption) | refine Below.alloc ?_ ?_ _ | refine Below.setCell ?_ ?_ _ | refine below_drewN ?_ _ | refine Below.drew ?_ | refine below_via (by assumption) ?_ ?_) | (first | (with_reducible assumption) | omega | (simp only [szW] <;> omega) | (simp <;> omega))))
  have HB2 := Lib.hid hB2
  clear hb1 hb2 C1 C2
  go_wp2
  go_quiet (fail)
  have hzq : w2.heap.size ≤ (w2.drewN nq).heap.size := Nat.le_refl _
  have HBQ : Hid (Below w2.heap.size w2 (w2.drewN nq)) := Lib.hid (below_drewN (Below.refl _ _) _)
  generalize w2.drewN nq = wz at *
  have hz_wz := HBQ.out.size
  try simp only [World.size_alloc, World.size_setCell] at hz_wz
  have all_c : wz.cell? ⟨w.heap.size, 0, none⟩ = some (.int .i64 seg) ∧ wz.cell? ⟨w.heap.size, 1, none⟩ = some (.slice wa lw wc) ∧ wz.cell? ⟨w.heap.size, 2, none⟩ = some (.slice ka lk kc) ∧ wz.cell? ⟨w.heap.size, 3, none⟩ = some (.slice va lv vc) ∧ wz.cell? ⟨w.heap.size, 4, none⟩ = some (.slice ca M cc) ∧ wz.cell? ⟨w.heap.size, 5, none⟩ = some (.int .u64 laid) ∧ wz.cell? ⟨w.heap.size + 1, 0, none⟩ = some (.int .i64 seg) ∧ wz.cell? ⟨w.heap.size + 1, 1, none⟩ = some (.slice wa' lw' wc') ∧ wz.cell? ⟨w.heap.size + 1, 2, none⟩ = some (.slice ka' lk kc') ∧ wz.cell? ⟨w.heap.size + 1, 3, none⟩ = some (.slice va' lv' vc') ∧ wz.cell? ⟨w.heap.size + 1, 4, none⟩ = some (.slice ca' lc' cc') ∧ wz.cell? ⟨w.heap.size + 1, 5, none⟩ = some (.int .u64 laid') := by refine ⟨?_, ?_, ?_, ?_, ?_, ?_, ?_, ?_, ?_, ?_, ?_, ?_⟩ <;> (refine (HBQ.out.cell ?_).trans ?_ <;> first | (first | (with_reducible assumption) | omega | (simp only [szW] <;> omega) | (simp <;> omega)) | (first | (with_reducible assumption) | ((try simp (disch := first | omega | (simp only [szW] <;> omega) | fail) only [ceW]) <;> first | (with_reducible assumption) | rfl)))
  have all_z : w.heap.size < wz.heap.size ∧ w.heap.size + 1 < wz.heap.size := by refine ⟨?_, ?_⟩ <;> (omega)
  clear c_s0 c_s1 c_s2 c_s3 c_s4 c_s5 c_t0 c_t1 c_t2 c_t3 c_t4 c_t5 z_s z_t
  obtain ⟨c_s0, c_s1, c_s2, c_s3, c_s4, c_s5, c_t0, c_t1, c_t2, c_t3, c_t4, c_t5⟩ := all_c
  try clear all_c
  obtain ⟨z_s, z_t⟩ := all_z
  try clear all_z
  have HBZ : Hid (Below w.heap.size w wz) := Lib.hid (below_via HBQ.out HB2.out (by omega))
  go_wp2
  go_loopg [4] M (fun gk iv wr => ∃ i : Nat, i + gk = M ∧ iv = .int .i64 i ∧ Hid (Below wz.heap.size wz wr) ∧ Hid (∀ j, j < i → alkB c d S j = true))
  case atStart => exact ⟨0, by omega, rfl, Lib.hid (Below.refl _ _), Lib.hid fun j h => by omega⟩
  case round =>
    obtain ⟨i, hi, rfl, HBr, HI⟩ := hrel
    have hzr := HBr.out.size
    have hz_wr := HBr.out.size
    try simp only [World.size_alloc, World.size_setCell] at hz_wr
    have all_c : wr.cell? ⟨w.heap.size, 0, none⟩ = some (.int .i64 seg) ∧ wr.cell? ⟨w.heap.size, 1, none⟩ = some (.slice wa lw wc) ∧ wr.cell? ⟨w.heap.size, 2, none⟩ = some (.slice ka lk kc) ∧ wr.cell? ⟨w.heap.size, 3, none⟩ = some (.slice va lv vc) ∧ wr.cell? ⟨w.heap.size, 4, none⟩ = some (.slice ca M cc) ∧ wr.cell? ⟨w.heap.size, 5, none⟩ = some (.int .u64 laid) ∧ wr.cell? ⟨w.heap.size + 1, 0, none⟩ = some (.int .i64 seg) ∧ wr.cell? ⟨w.heap.size + 1, 1, none⟩ = some (.slice wa' lw' wc') ∧ wr.cell? ⟨w.heap.size + 1, 2, none⟩ = some (.slice ka' lk kc') ∧ wr.cell? ⟨w.heap.size + 1, 3, none⟩ = some (.slice va' lv' vc') ∧ wr.cell? ⟨w.heap.size + 1, 4, none⟩ = some (.slice ca' lc' cc') ∧ wr.cell? ⟨w.heap.size + 1, 5, none⟩ = some (.int .u64 laid') := by refine ⟨?_, ?_, ?_, ?_, ?_, ?_, ?_, ?_, ?_, ?_, ?_, ?_⟩ <;> (refine (HBr.out.cell ?_).trans ?_ <;> first | (first | (with_reducible assumption) | omega | (simp only [szW] <;> omega) | (simp <;> omega)) | (first | (with_reducible assumption) | ((try simp (disch := first | omega | (simp only [szW] <;> omega) | fail) only [ceW]) <;> first | (with_reducible assumption) | rfl)))
    have all_z : w.heap.size < wr.heap.size ∧ w.heap.size + 1 < wr.heap.size := by refine ⟨?_, ?_⟩ <;> (omega)
    clear c_s0 c_s1 c_s2 c_s3 c_s4 c_s5 c_t0 c_t1 c_t2 c_t3 c_t4 c_t5 z_s z_t
    obtain ⟨c_s0, c_s1, c_s2, c_s3, c_s4, c_s5, c_t0, c_t1, c_t2, c_t3, c_t4, c_t5⟩ := all_c
    try clear all_c
    obtain ⟨z_s, z_t⟩ := all_z
    try clear all_z
    have hBr : Below w.heap.size w wr := below_via HBr.out HBZ.out (by omega)
    have HII := Lib.hid hi
    have hiM : i ≤ M := by omega
    clear hi
    by_cases hgo : i < M ∧ alkB c d S i = true
    · obtain ⟨hlt, hal⟩ := hgo
      have A1 := Lib.hid (AL.out i wr hlt hBr)
      rw [hal] at A1
      have HAL := Lib.hid hal
      clear hal
      go_wp2_with fail
      refine A1.out.mono ?_
      rintro e w5 ⟨rfl, hb5⟩
      have HB5 := Lib.hid (HBr.out.trans (hb5.mono hzr))
      clear hb5
      go_wp2
      go_roundg (gk - 1)
      case measure => have := HII.out; omega
      case rel => exact ⟨i + 1, by have := HII.out; omega, by go_num, HB5, Lib.hid fun j hj => by
        by_cases e : j = i
        · subst e; exact HAL.out
        · exact HI.out j (by omega)⟩
    · have HFU : Hid (fromU c d S M = i) := Lib.hid (fromU_is HI.out hiM fun hlt => by
        rw [Bool.eq_false_iff]
        exact fun e => hgo ⟨hlt, e⟩)
      -- out of the first loop
      have rest : ∀ W, Below wr.heap.size wr W → Hid (Below w.heap.size w W) := fun W hb => Lib.hid (below_via hb hBr hBr.size)
      by_cases hlt : i < M
      · have hal : alkB c d S i = false := by
          rw [Bool.eq_false_iff]
          exact fun e => hgo ⟨hlt, e⟩
        have A1 := Lib.hid (AL.out i wr hlt hBr)
        rw [hal] at A1
        have HAL := Lib.hid hal
        clear hal hgo
        go_wp2_with fail
        refine A1.out.mono ?_
        rintro e w5 ⟨rfl, hb5⟩
        have hz_w5 := hb5.size
        try simp only [World.size_alloc, World.size_setCell] at hz_w5
        have all_c : w5.cell? ⟨w.heap.size, 0, none⟩ = some (.int .i64 seg) ∧ w5.cell? ⟨w.heap.size, 1, none⟩ = some (.slice wa lw wc) ∧ w5.cell? ⟨w.heap.size, 2, none⟩ = some (.slice ka lk kc) ∧ w5.cell? ⟨w.heap.size, 3, none⟩ = some (.slice va lv vc) ∧ w5.cell? ⟨w.heap.size, 4, none⟩ = some (.slice ca M cc) ∧ w5.cell? ⟨w.heap.size, 5, none⟩ = some (.int .u64 laid) ∧ w5.cell? ⟨w.heap.size + 1, 0, none⟩ = some (.int .i64 seg) ∧ w5.cell? ⟨w.heap.size + 1, 1, none⟩ = some (.slice wa' lw' wc') ∧ w5.cell? ⟨w.heap.size + 1, 2, none⟩ = some (.slice ka' lk kc') ∧ w5.cell? ⟨w.heap.size + 1, 3, none⟩ = some (.slice va' lv' vc') ∧ w5.cell? ⟨w.heap.size + 1, 4, none⟩ = some (.slice ca' lc' cc') ∧ w5.cell? ⟨w.heap.size + 1, 5, none⟩ = some (.int .u64 laid') := by refine ⟨?_, ?_, ?_, ?_, ?_, ?_, ?_, ?_, ?_, ?_, ?_, ?_⟩ <;> (refine (hb5.cell ?_).trans ?_ <;> first | (first | (with_reducible assumption) | omega | (simp only [szW] <;> omega) | (simp <;> omega)) | (first | (with_reducible assumption) | ((try simp (disch := first | omega | (simp only [szW] <;> omega) | fail) only [ceW]) <;> first | (with_reducible assumption) | rfl)))
        have all_z : w.heap.size < w5.heap.size ∧ w.heap.size + 1 < w5.heap.size := by refine ⟨?_, ?_⟩ <;> (omega)
        clear c_s0 c_s1 c_s2 c_s3 c_s4 c_s5 c_t0 c_t1 c_t2 c_t3 c_t4 c_t5 z_s z_t
        obtain ⟨c_s0, c_s1, c_s2, c_s3, c_s4, c_s5, c_t0, c_t1, c_t2, c_t3, c_t4, c_t5⟩ := all_c
        try clear all_c
        obtain ⟨z_s, z_t⟩ := all_z
        try clear all_z
        have HB5 := rest w5 hb5
        clear hb5 rest
        go_wp2
        go_loopg [5] (M - i) (fun gk tv wq => ∃ t : Nat, i + gk = t ∧ i < t ∧ t ≤ M ∧ tv = .int .i64 t ∧ Hid (Below w5.heap.size w5 wq) ∧ Hid (∀ k, t ≤ k → k < M → alkB c d S k = true))
        case atStart => exact ⟨M, by omega, hlt, Nat.le_refl _, rfl, Lib.hid (Below.refl _ _), Lib.hid fun k h1 h2 => by omega⟩
        case round =>
          obtain ⟨t, ht, hit, htM, rfl, HBq, HT⟩ := hrel
          have hzq2 := HBq.out.size
          have hz_wr := HBq.out.size
          try simp only [World.size_alloc, World.size_setCell] at hz_wr
          have all_c : wr.cell? ⟨w.heap.size, 0, none⟩ = some (.int .i64 seg) ∧ wr.cell? ⟨w.heap.size, 1, none⟩ = some (.slice wa lw wc) ∧ wr.cell? ⟨w.heap.size, 2, none⟩ = some (.slice ka lk kc) ∧ wr.cell? ⟨w.heap.size, 3, none⟩ = some (.slice va lv vc) ∧ wr.cell? ⟨w.heap.size, 4, none⟩ = some (.slice ca M cc) ∧ wr.cell? ⟨w.heap.size, 5, none⟩ = some (.int .u64 laid) ∧ wr.cell? ⟨w.heap.size + 1, 0, none⟩ = some (.int .i64 seg) ∧ wr.cell? ⟨w.heap.size + 1, 1, none⟩ = some (.slice wa' lw' wc') ∧ wr.cell? ⟨w.heap.size + 1, 2, none⟩ = some (.slice ka' lk kc') ∧ wr.cell? ⟨w.heap.size + 1, 3, none⟩ = some (.slice va' lv' vc') ∧ wr.cell? ⟨w.heap.size + 1, 4, none⟩ = some (.slice ca' lc' cc') ∧ wr.cell? ⟨w.heap.size + 1, 5, none⟩ = some (.int .u64 laid') := by refine ⟨?_, ?_, ?_, ?_, ?_, ?_, ?_, ?_, ?_, ?_, ?_, ?_⟩ <;> (refine (HBq.out.cell ?_).trans ?_ <;> first | (first | (with_reducible assumption) | omega | (simp only [szW] <;> omega) | (simp <;> omega)) | (first | (with_reducible assumption) | ((try simp (disch := first | omega | (simp only [szW] <;> omega) | fail) only [ceW]) <;> first | (with_reducible assumption) | rfl)))
          have all_z : w.heap.size < wr.heap.size ∧ w.heap.size + 1 < wr.heap.size := by refine ⟨?_, ?_⟩ <;> (omega)
          clear c_s0 c_s1 c_s2 c_s3 c_s4 c_s5 c_t0 c_t1 c_t2 c_t3 c_t4 c_t5 z_s z_t
          obtain ⟨c_s0, c_s1, c_s2, c_s3, c_s4, c_s5, c_t0, c_t1, c_t2, c_t3, c_t4, c_t5⟩ := all_c
          try clear all_c
          obtain ⟨z_s, z_t⟩ := all_z
          try clear all_z
          have hBq : Below w.heap.size w wr := below_via HBq.out HB5.out HB5.out.size
          have HTT := Lib.hid ht
          obtain ⟨t', rfl⟩ : ∃ t', t = t' + 1 := ⟨t - 1, by omega⟩
          have A2 := Lib.hid (AL.out t' wr (by omega) hBq)
          clear ht
          by_cases ha2 : alkB c d S t' = true
          · have hne : t' ≠ i := by
              intro e
              rw [e, HAL.out] at ha2
              cases ha2
            rw [ha2] at A2
            have HA2 := Lib.hid ha2
            clear ha2
            go_wp2_with fail
            refine A2.out.mono ?_
            rintro e w6 ⟨rfl, hb6⟩
            have HB6 := Lib.hid (HBq.out.trans (hb6.mono hzq2))
            clear hb6
            go_wp2
            go_roundg (gk - 1)
            case measure => have := HTT.out; omega
            case rel => exact ⟨t', by have := HTT.out; omega, by omega, by omega, by go_num, HB6, Lib.hid fun k k1 k2 => by
              by_cases e : k = t'
              · subst e; exact HA2.out
              · exact HT.out k (by omega) k2⟩
          · have ha3 : alkB c d S t' = false := by simpa using ha2
            rw [ha3] at A2
            have HE : Hid (X = i ∧ Y = t' + 1) := Lib.hid (by
              obtain ⟨e1, e2⟩ := HX.out
              have hne : ¬ fromU c d S M = M := by rw [HFU.out]; omega
              rw [← e1, ← e2, tuF, tuT, if_neg hne, if_neg hne, HFU.out, toU_is htM HT.out, toU, if_neg ha2]
              exact ⟨rfl, rfl⟩)
            clear ha2 ha3
            go_wp2_with fail
            refine A2.out.mono ?_
            rintro e w6 ⟨rfl, hb6⟩
            have hB6 : Below w.heap.size w w6 := below_via hb6 hBq hBq.size
            have hne2 : ((i : Int) == (t' : Int) + 1) = false := by simp; omega
            go_wp2
            go_ret3
            rw [HE.out.1, HE.out.2]
            exact ⟨by push_cast; rfl, hB6⟩
      · have hiM2 : i = M := by omega
        have HE : Hid (X = 0 ∧ Y = 0) := Lib.hid (by
          obtain ⟨e1, e2⟩ := HX.out
          have he : fromU c d S M = M := by rw [HFU.out, hiM2]
          rw [← e1, ← e2, tuF, tuT, if_pos he, if_pos he]
          exact ⟨rfl, rfl⟩)
        have g9 : ((i : Int) == (M : Int)) = true := by simp; omega
        clear hgo rest
        go_wp2
        go_loopg [5] 0 (fun gk tv wq => tv = .int .i64 (M : Nat) ∧ Hid (Below wr.heap.size wr wq))
        case atStart => exact ⟨rfl, Lib.hid (Below.refl _ _)⟩
        case round =>
          obtain ⟨rfl, HBq⟩ := hrel
          have hBq := below_via HBq.out hBr hBr.size
          go_wp2
          go_ret3
          rw [HE.out.1, HE.out.2]
          exact ⟨rfl, hBq⟩
/-- what Turned answers -/
def tuV (c d : SlC) : Int × Int × Int := if tuE c d = 0 then ((tuF c d c.seg.toNat c.cs.length : Nat), (tuT c d c.seg.toNat c.cs.length : Nat), 0) else (0, 0, tuE c d)
theorem Turned_ok (c d : SlC) (a b : SlA) (hl : c.ws.length ≤ 1000000000000) (hl2 : c.ks.length ≤ 1000000000000) (hl' : d.ws.length ≤ 1000000000000) (hl2' : d.ks.length ≤ 1000000000000) (w : World) (hc : SlIn w c a) (hd : SlIn w d b)
    (q1 : c.ks.length ≤ a.kc) (q2 : c.vs.length ≤ a.vc) (q3 : d.ks.length ≤ b.kc) (q4 : d.vs.length ≤ b.vc) :
    Calls Try.prog 13 #[slV c a, slV d b] w (AnsB w (.tuple #[.int .i64 (tuV c d).1, .int .i64 (tuV c d).2.1, .int .i64 (tuV c d).2.2])) := by
  have C1 := Lib.hid (fun W (hb : Below w.heap.size w W) => slCheck_ok c a hl hl2 W (hc.below hb))
  have C2 := Lib.hid (fun W (hb : Below w.heap.size w W) => slCheck_ok d b hl' hl2' W (hd.below hb))
  by_cases h1 : slMay c = true
  · rw [show slE c = 0 from if_pos h1] at C1
    by_cases h2 : slMay d = true
    · rw [show slE d = 0 from if_pos h2] at C2
      by_cases h3 : c.seg = d.seg ∧ c.ks.length = d.ks.length
      · have e : tuE c d = 0 := by rw [tuE, if_pos h1, if_pos h2, if_pos h3]
        obtain ⟨S, M, hS, h4, h64, hks, hvs, hcs, -, hSM, hM8, hws, -⟩ := slHead_facts (slMay_head h1)
        obtain ⟨S', M', hS', h4', -, hks', hvs', hcs', -, -, -, hws', -⟩ := slHead_facts (slMay_head h2)
        have hSS : S' = S := by omega
        subst hSS
        have hMM : M' = M := by
          have : S' * M' = S' * M := by omega
          exact Nat.eq_of_mul_eq_mul_left (by omega) this
        subst hMM
        have AL := Lib.hid (fun k W (hk : k < M') (hb : Below w.heap.size w W) => alike_ok S' M' k c d a b W (hc.below hb) (hd.below hb) h4 h64 hSM hS hS' hks hks' hvs hvs' hws hws' (by omega) (by omega) (by omega) (by omega) hk)
        have hS2 : c.seg.toNat = S' := by omega
        rw [tuV, if_pos e, hS2, hcs]
        obtain ⟨seg, ws, ks, vs, cs, laid⟩ := c
        obtain ⟨wa, ka, va, ca, wc, kc, vc, cc⟩ := a
        obtain ⟨seg', ws', ks', vs', cs', laid'⟩ := d
        obtain ⟨wa', ka', va', ca', wc', kc', vc', cc'⟩ := b
        dsimp only [slV] at *
        obtain ⟨e1, e2⟩ := h3
        subst e1
        rw [← e2] at C2 AL ⊢
        rw [hcs] at C1 AL ⊢
        exact Tu_core _ _ _ _ _ _ _ _ _ _ _ _ _ _ _ _ _ _ _ _ _ _ _ _ _ M' _ _ S' hM8 w C1 C2 AL
      · have e : tuE c d = 2 := by rw [tuE, if_pos h1, if_pos h2, if_neg h3]
        rw [tuV, e, if_neg (by decide)]
        exact Tu_no3 _ _ _ _ _ _ _ _ _ _ _ _ _ _ _ _ _ _ _ _ _ _ _ _ _ _ _ _ (by
          by_cases h : c.seg = d.seg
          · exact .inr ⟨h, fun h' => h3 ⟨h, h'⟩⟩
          · exact .inl h) w C1 C2
    · rw [show slE d = 8 from if_neg h2] at C2
      have e : tuE c d = 8 := by rw [tuE, if_pos h1, if_neg h2]
      rw [tuV, e, if_neg (by decide)]
      exact Tu_no2 _ _ _ _ _ _ _ _ _ _ _ _ _ _ _ _ _ _ _ _ _ _ _ _ _ _ _ _ 8 (by decide) w C1 C2
  · rw [show slE c = 8 from if_neg h1] at C1
    have e : tuE c d = 8 := by rw [tuE, if_neg h1]
    rw [tuV, e, if_neg (by decide)]
    exact Tu_no1 _ _ _ _ _ _ _ _ _ _ _ _ _ _ _ _ _ _ _ _ _ _ _ _ _ _ _ _ 8 _ (by decide) w C1 C2
end
end Go.Proofs.Ytbmibaafkgleeaa
