/- Merged: Split, Find. -/
import Derived.Test.YtmnlagmmbfjbeaaGreatDoorTzNx
import Derived.Test.YtmnlagmmbfjbeaaGreatDoorIdxLaw
namespace Go.Proofs.YtmnlagmmbfjbeaaGreatDoor
set_option linter.unusedVariables false
set_option linter.unusedSimpArgs false
section
open Go.RowKit Go.Shelf

/-- keys rise from slot to slot -/
def MonoK (ws ks : List Int) (n : Nat) : Prop := ∀ i j, i < j → j < n → bitW ws i = true → bitW ws j = true → ks.getD i 0 < ks.getD j 0
theorem seek_mono {c : SlC} (h : seekE c = 0) : MonoK c.ws c.ks c.ks.length := by
  have hr := seek_ris h
  unfold Ris prs plsW at hr
  rw [List.pairwise_map, List.pairwise_filter, List.pairwise_iff_getElem] at hr
  intro i j hij hj bi bj
  have := hr i j (by rw [List.length_range']; omega) (by rw [List.length_range']; omega) hij
  simp only [List.getElem_range', Nat.zero_add, Nat.one_mul] at this
  exact this bi bj
/-- the slot r is the first whose key is not below key; n: there is none -/
structure FrR (ws ks : List Int) (n : Nat) (key : Int) (r : Nat) : Prop where
  le : r ≤ n
  low : ∀ j, j < r → bitW ws j = true → ks.getD j 0 < key
  hit : r < n → bitW ws r = true ∧ key ≤ ks.getD r 0
def frS (ws ks : List Int) (n : Nat) (key : Int) : Nat := ((List.range' 0 n).find? fun i => bitW ws i && decide (key ≤ ks.getD i 0)).getD n
theorem frS_is (ws ks : List Int) (n : Nat) (key : Int) : FrR ws ks n key (frS ws ks n key) := by
  unfold frS
  cases h : (List.range' 0 n).find? fun i => bitW ws i && decide (key ≤ ks.getD i 0) with
  | none =>
    rw [List.find?_eq_none] at h
    refine ⟨Nat.le_refl _, fun j hj hb => ?_, fun hn => absurd hn (Nat.lt_irrefl _)⟩
    have := h j (List.mem_range'_1.2 ⟨Nat.zero_le _, by simpa using hj⟩)
    rw [hb] at this
    simpa using this
  | some i =>
    rw [List.find?_eq_some_iff_getElem] at h
    obtain ⟨h1, k, hk, h2, h3⟩ := h
    rw [List.getElem_range'] at h2
    rw [List.length_range'] at hk
    obtain rfl : k = i := by omega
    simp only [Bool.and_eq_true, decide_eq_true_eq] at h1
    refine ⟨by simp; omega, fun j hj hb => ?_, fun _ => h1⟩
    have := h3 j hj
    rw [List.getElem_range', show 0 + 1 * j = j by omega, hb] at this
    simpa using this
theorem FrR.unique {ws ks : List Int} {n : Nat} {key : Int} {r q : Nat} (h : FrR ws ks n key r) (k : FrR ws ks n key q) : r = q := by
  apply Nat.le_antisymm
  · apply Nat.le_of_not_lt
    intro hl
    have a := k.hit (Nat.lt_of_lt_of_le hl h.le)
    have b := h.low q hl a.1
    omega
  · apply Nat.le_of_not_lt
    intro hl
    have a := h.hit (Nat.lt_of_lt_of_le hl k.le)
    have b := k.low r hl a.1
    omega

theorem from1_ok (k key : Int) (b : Nat) (w : World) (hb : w.cell? ⟨b, 0, none⟩ = some (.int .i64 key)) :
    Calls Tryz.prog 118 #[.int .i64 k, .pointer (some ⟨b, 0, none⟩)] w fun e w' => e = .returned (.bool (decide (key ≤ k))) ∧ w = w' := by
  go_enter Tryz.func118, Tryz.ntmps118
  go_wp2
  go_ret
  exact ⟨rfl, rfl⟩

set_option maxRecDepth 100000 in
set_option maxHeartbeats 2000000 in
theorem split_ok (seg laid key : Int) (wa ka va ca : Option Addr) (wc kc vc cc lw lv lc : Nat) (n : Nat) (ws ks : List Int) (hn : n ≤ 65536) (hks : ks.length = n) (b : Nat) (w : World) (hk : IsRow .i64 w ka ks) (hb : w.cell? ⟨b, 0, none⟩ = some (.int .i64 key)) (hmo : MonoK ws ks n)
    (NX : Hid (∀ m W, m ≤ n → Below w.heap.size w W → Calls Tryz.prog 151 #[.slice wa lw wc, .int .i64 n, .int .i64 (m : Nat)] W (AnsB W (.tuple #[.int .i64 ((nx ws m n).getD 0 : Nat), .int .i64 (if (nx ws m n).isSome then 0 else 6)])))) :
    Calls Tryz.prog 117 #[.agg #[.int .i64 seg, .slice wa lw wc, .slice ka n kc, .slice va lv vc, .slice ca lc cc, .int .u64 laid], .func (.func 118) #[] #[.pointer (some ⟨b, 0, none⟩)]] w (AnsB w (.int .i64 (frS ws ks n key))) := by
  have HN := Lib.hid (fun m (hm : m ≤ n) (h : nx ws m n = none) W hb => (show Calls Tryz.prog 151 #[.slice wa lw wc, .int .i64 n, .int .i64 (m : Nat)] W (AnsB W (.tuple #[.int .i64 0, .int .i64 6])) by
    have := NX.out m W hm hb
    rw [h] at this
    exact this))
  have HS := Lib.hid (fun m (hm : m ≤ n) i (h : nx ws m n = some i) W hb => (show Calls Tryz.prog 151 #[.slice wa lw wc, .int .i64 n, .int .i64 (m : Nat)] W (AnsB W (.tuple #[.int .i64 (i : Nat), .int .i64 0])) by
    have := NX.out m W hm hb
    rw [h] at this
    exact this))
  have FR := Lib.hid (fun r (h : FrR ws ks n key r) => (frS_is ws ks n key).unique h)
  have HK := Lib.hid hk
  have HKL := Lib.hid hks
  have HMO := Lib.hid hmo
  obtain ⟨R, hR⟩ : ∃ R, frS ws ks n key = R := ⟨_, rfl⟩
  rw [hR] at FR ⊢
  clear hk hks hmo NX hR
  go_enter Tryz.func117, Tryz.ntmps117
  have hbk := World.block_lt_of_cell? _ _ hb
  go_wp2
  refine wp_scope_loop 0 (fun _ _ _ => False) rfl (fun _ _ _ h => h.elim) ?_
  intro H hH hp
  clear hH hp
  go_wp2
  refine wp_label ?_
  have hba : Below w.heap.size w (w.alloc (.cells #[.int .i64 seg, .slice wa lw wc, .slice ka n kc, .slice va lv vc, .slice ca lc cc, .int .u64 laid] 29)) := (Below.refl _ _).alloc (Nat.le_refl _) _
  have d1 : (w.alloc (.cells #[.int .i64 seg, .slice wa lw wc, .slice ka n kc, .slice va lv vc, .slice ca lc cc, .int .u64 laid] 29)).cell? ⟨w.heap.size, 1, none⟩ = some (.slice wa lw wc) := by ((try simp (disch := first | omega | (simp only [szW] <;> omega) | fail) only [ceW]) <;> rfl)
  have d2 : (w.alloc (.cells #[.int .i64 seg, .slice wa lw wc, .slice ka n kc, .slice va lv vc, .slice ca lc cc, .int .u64 laid] 29)).cell? ⟨w.heap.size, 2, none⟩ = some (.slice ka n kc) := by ((try simp (disch := first | omega | (simp only [szW] <;> omega) | fail) only [ceW]) <;> rfl)
  have hsz : w.heap.size < (w.alloc (.cells #[.int .i64 seg, .slice wa lw wc, .slice ka n kc, .slice va lv vc, .slice ca lc cc, .int .u64 laid] 29)).heap.size := by simp
  generalize (w.alloc (.cells #[.int .i64 seg, .slice wa lw wc, .slice ka n kc, .slice va lv vc, .slice ca lc cc, .int .u64 laid] 29)) = w1 at *
  have HBA := Lib.hid hba
  clear hba
  go_wp2
  go_loopg [6, 7] n (fun gk fv tv wr => ∃ i j : Nat, i + gk = j ∧ j ≤ n ∧ fv = .int .i64 i ∧ tv = .int .i64 j ∧ Hid (Below w.heap.size w wr) ∧ wr.cell? ⟨w.heap.size, 1, none⟩ = some (.slice wa lw wc) ∧ wr.cell? ⟨w.heap.size, 2, none⟩ = some (.slice ka n kc) ∧ w.heap.size < wr.heap.size ∧ Hid (∀ q, q < i → bitW ws q = true → ks.getD q 0 < key) ∧ Hid (∀ q, j ≤ q → q < n → bitW ws q = true → key ≤ ks.getD q 0))
  case atStart => exact ⟨0, n, by omega, Nat.le_refl _, rfl, rfl, HBA, d1, d2, hsz, Lib.hid (fun q h => by omega), Lib.hid (fun q h1 h2 => by omega)⟩
  case round =>
    obtain ⟨i, j, hij, hjn, rfl, rfl, HB, e1, e2, hz, HA, HC⟩ := hrel
    by_cases hlt : i < j
    · obtain ⟨m, hm⟩ : ∃ m, (i + j) / 2 = m := ⟨_, rfl⟩
      have hmi : i ≤ m := by omega
      have hmj : m < j := by omega
      have hmn : m ≤ n := by omega
      have q1 : ((i : Int) + (j : Int)) / 2 = (m : Int) := by omega
      have q2 : ((i : Int) + (j : Int)).tdiv 2 = (m : Int) := by rw [Int.tdiv_eq_ediv_of_nonneg (by omega)]; omega
      have HIJ := Lib.hid (And.intro hij hjn)
      have HM := Lib.hid (And.intro hmi (And.intro hmj hmn))
      clear hij hm
      cases hox : nx ws m n with
      | none =>
        have N1 := Lib.hid (HN.out m hmn hox wr HB.out)
        have FC : Hid (∀ q, m ≤ q → q < n → bitW ws q = true → key ≤ ks.getD q 0) := Lib.hid fun q h1 h2 h3 => by
          have := nx_none.1 hox q h1 h2
          rw [h3] at this
          cases this
        clear hmi hmj hjn hox
        go_wp2_with fail
        refine N1.out.mono ?_
        rintro e w2 ⟨rfl, hb2⟩
        have hz2 := hb2.size
        replace e1 := (hb2.cell (p := ⟨w.heap.size, 1, none⟩) hz).trans e1
        replace e2 := (hb2.cell (p := ⟨w.heap.size, 2, none⟩) hz).trans e2
        have HB2 := Lib.hid (below_via hb2 HB.out (by omega))
        clear hb2
        go_wp2
        go_roundg (m - i)
        case measure => have := HIJ.out; have := HM.out; omega
        case rel => exact ⟨i, m, by have := HM.out; omega, hmn, rfl, rfl, HB2, e1, e2, by omega, HA, FC⟩
      | some at_ =>
        obtain ⟨x1, x2, x3, x4⟩ := nx_some.1 hox
        have N1 := Lib.hid (HS.out m hmn at_ hox wr HB.out)
        by_cases hge : j ≤ at_
        · have FC : Hid (∀ q, m ≤ q → q < n → bitW ws q = true → key ≤ ks.getD q 0) := Lib.hid fun q h1 h2 h3 => by
            refine HC.out q ?_ h2 h3
            apply Nat.le_trans hge
            apply Nat.le_of_not_lt
            intro hl
            have := x4 q h1 hl
            rw [h3] at this
            cases this
          clear hmi hmj hjn hox x3 x4
          go_wp2_with fail
          refine N1.out.mono ?_
          rintro e w2 ⟨rfl, hb2⟩
          have hz2 := hb2.size
          replace e1 := (hb2.cell (p := ⟨w.heap.size, 1, none⟩) hz).trans e1
          replace e2 := (hb2.cell (p := ⟨w.heap.size, 2, none⟩) hz).trans e2
          have HB2 := Lib.hid (below_via hb2 HB.out (by omega))
          clear hb2
          go_wp2
          go_roundg (m - i)
          case measure => have := HIJ.out; have := HM.out; omega
          case rel => exact ⟨i, m, by have := HM.out; omega, hmn, rfl, rfl, HB2, e1, e2, by omega, HA, FC⟩
        · obtain ⟨bk, ok, kx, rfl, hkx, ck, hkl⟩ := HK.out.get (i := at_) (by have := HKL.out; omega)
          have HMX : Hid (∀ q, q < n → bitW ws q = true → (q < at_ → ks.getD q 0 < kx) ∧ (at_ < q → kx < ks.getD q 0)) := Lib.hid fun q h1 h2 => ⟨fun h => by rw [← hkx.out]; exact HMO.out q at_ h x2 h2 x3, fun h => by rw [← hkx.out]; exact HMO.out at_ q h h1 x3 h2⟩
          have hat : at_ < j := by omega
          have hbelow : ∀ q, m ≤ q → q < at_ → bitW ws q = false := x4
          have HBW := Lib.hid hbelow
          have HKX := hkx
          clear hmi hmj hjn hox x3 x4 hge hkx hbelow
          have F1 := fun W (hb : Below w.heap.size w W) => Lib.hid (from1_ok kx key b W ((hb.cell (World.block_lt_of_cell? _ _ (by assumption))).trans (by assumption)))
          by_cases hle : key ≤ kx
          · have FC : Hid (∀ q, m ≤ q → q < n → bitW ws q = true → key ≤ ks.getD q 0) := Lib.hid fun q h1 h2 h3 => by
              rcases Nat.lt_trichotomy q at_ with h | h | h
              · have := HBW.out q h1 h
                rw [h3] at this
                cases this
              · rw [h, HKX.out]; exact hle
              · have := (HMX.out q h2 h3).2 h
                omega
            have hd : decide (key ≤ kx) = true := decide_eq_true hle
            have F2 : Hid (∀ W, Below w.heap.size w W → Calls Tryz.prog 118 #[.int .i64 kx, .pointer (some ⟨b, 0, none⟩)] W fun e w' => e = .returned (.bool true) ∧ W = w') := Lib.hid fun W hb => by
              have := (F1 W hb).out
              rw [hd] at this
              exact this
            clear F1 hle hd HBW HMX
            go_wp2_with fail
            refine N1.out.mono ?_
            rintro e w2 ⟨rfl, hb2⟩
            have hz2 := hb2.size
            replace e1 := (hb2.cell (p := ⟨w.heap.size, 1, none⟩) hz).trans e1
            replace e2 := (hb2.cell (p := ⟨w.heap.size, 2, none⟩) hz).trans e2
            have HB2 := Lib.hid (below_via hb2 HB.out (by omega))
            have ck2 := (HB2.out.cell (World.block_lt_of_cell? _ _ ck)).trans ck
            clear hb2
            go_wp2_with fail
            refine (F2.out _ HB2.out).mono ?_
            rintro e w' ⟨rfl, rfl⟩
            go_wp2
            go_roundg (m - i)
            case measure => have := HIJ.out; have := HM.out; omega
            case rel => exact ⟨i, m, by have := HM.out; omega, hmn, rfl, rfl, HB2, e1, e2, by omega, HA, FC⟩
          · have FA : Hid (∀ q, q < at_ + 1 → bitW ws q = true → ks.getD q 0 < key) := Lib.hid fun q h1 h3 => by
              rcases Nat.lt_trichotomy q at_ with h | h | h
              · have := (HMX.out q (by omega) h3).1 h
                omega
              · rw [h, HKX.out]; omega
              · omega
            have hd : decide (key ≤ kx) = false := decide_eq_false hle
            have F2 : Hid (∀ W, Below w.heap.size w W → Calls Tryz.prog 118 #[.int .i64 kx, .pointer (some ⟨b, 0, none⟩)] W fun e w' => e = .returned (.bool false) ∧ W = w') := Lib.hid fun W hb => by
              have := (F1 W hb).out
              rw [hd] at this
              exact this
            clear F1 hle hd HBW HMX
            go_wp2_with fail
            refine N1.out.mono ?_
            rintro e w2 ⟨rfl, hb2⟩
            have hz2 := hb2.size
            replace e1 := (hb2.cell (p := ⟨w.heap.size, 1, none⟩) hz).trans e1
            replace e2 := (hb2.cell (p := ⟨w.heap.size, 2, none⟩) hz).trans e2
            have HB2 := Lib.hid (below_via hb2 HB.out (by omega))
            have ck2 := (HB2.out.cell (World.block_lt_of_cell? _ _ ck)).trans ck
            clear hb2
            go_wp2_with fail
            refine (F2.out _ HB2.out).mono ?_
            rintro e w' ⟨rfl, rfl⟩
            go_wp2
            go_roundg (j - (at_ + 1))
            case measure => have := HIJ.out; have := HM.out; omega
            case rel => exact ⟨at_ + 1, j, by omega, HIJ.out.2, by go_num, rfl, HB2, e1, e2, by omega, FA, HC⟩
    · have hij2 : i = j := by omega
      subst hij2
      have HJN := Lib.hid hjn
      cases hox : nx ws i n with
      | none =>
        have N1 := Lib.hid (HN.out i hjn hox wr HB.out)
        have HR := Lib.hid (FR.out n ⟨Nat.le_refl _, fun q h1 h2 => HA.out q (by
          apply Nat.lt_of_not_le
          intro h
          have := nx_none.1 hox q h h1
          rw [h2] at this
          cases this) h2, fun h => absurd h (Nat.lt_irrefl _)⟩)
        clear hox
        go_wp2_with fail
        refine N1.out.mono ?_
        rintro e w2 ⟨rfl, hb2⟩
        have HB2 := Lib.hid (below_via hb2 HB.out (by omega))
        clear hb2
        go_wp2
        simp only [Exit.jump]
        go_ret
        rw [HR.out]
        exact ⟨rfl, HB2.out⟩
      | some at_ =>
        obtain ⟨x1, x2, x3, x4⟩ := nx_some.1 hox
        have N1 := Lib.hid (HS.out i hjn at_ hox wr HB.out)
        have HR := Lib.hid (FR.out at_ ⟨by omega, fun q h1 h2 => HA.out q (by
          apply Nat.lt_of_not_le
          intro h
          have := x4 q h h1
          rw [h2] at this
          cases this) h2, fun h => ⟨x3, HC.out at_ x1 h x3⟩⟩)
        clear hox x3 x4
        go_wp2_with fail
        refine N1.out.mono ?_
        rintro e w2 ⟨rfl, hb2⟩
        have HB2 := Lib.hid (below_via hb2 HB.out (by omega))
        clear hb2
        go_wp2
        simp only [Exit.jump]
        go_ret
        rw [HR.out]
        exact ⟨rfl, HB2.out⟩
end

section
open Go.RowKit Go.Shelf

theorem seek_n {c : SlC} (h : seekE c = 0) : c.ks.length ≤ 65536 ∧ c.ws.length ≤ 65536 ∧ wMayB c.ws c.ks.length = true := by
  have hm := seekE_may h
  have hh := slMay_head hm
  obtain ⟨S, M, -, -, -, hnk, -, hw, -, hSM, -⟩ := slHead_facts hh
  have hwm : wMayB c.ws c.ks.length = true := by
    unfold slHead at hh
    simp only [Bool.and_eq_true] at hh
    exact hh.1.2
  refine ⟨by omega, ?_, hwm⟩
  simp only [wMayB, Bool.and_eq_true, decide_eq_true_eq] at hwm
  omega
set_option maxRecDepth 100000 in
set_option maxHeartbeats 1000000 in
theorem from_ok (c : SlC) (a : SlA) (key : Int) (hs : seekE c = 0) (w : World) (hin : SlIn w c a) (hT : TabAt w) :
    Calls Tryz.prog 73 #[slV c a, .int .i64 key] w (AnsB w (.int .i64 (frS c.ws c.ks c.ks.length key))) := by
  obtain ⟨h1, h2, h3⟩ := seek_n hs
  have hmo := seek_mono hs
  have SP := Lib.hid (fun W (hW : Below w.heap.size w W) (b : Nat) (hb : W.cell? ⟨b, 0, none⟩ = some (.int .i64 key)) => split_ok c.seg c.laid key a.wa a.ka a.va a.ca a.wc a.kc a.vc a.cc c.ws.length c.vs.length c.cs.length c.ks.length c.ws c.ks h1 rfl b W (hin.below hW).k hb hmo
    (Lib.hid fun m W' hm hW' => Next_ok a.wa a.wc c.ws hin.u c.ks.length m h1 (by omega) h3 hm W' ((hin.below hW).below hW').w ((hT.below hW).below hW')))
  obtain ⟨seg, ws, ks, vs, cs, laid⟩ := c
  obtain ⟨wa, ka, va, ca, wc, kc, vc, cc⟩ := a
  dsimp only [slV] at *
  generalize frS ws ks ks.length key = R at *
  clear hin hs h1 h2 h3 hmo hT
  go_enter Tryz.func73, Tryz.ntmps73
  go_wp2_with fail
  refine (SP.out _ (((Below.refl _ _).alloc (Nat.le_refl _) _).alloc (by simp) _) (w.heap.size + 1) (by ((try simp (disch := first | omega | (simp only [szW] <;> omega) | fail) only [ceW]) <;> rfl))).mono ?_
  rintro e w2 ⟨rfl, hb2⟩
  have hB2 : Below w.heap.size w w2 := below_via hb2 (((Below.refl _ _).alloc (Nat.le_refl _) _).alloc (by simp) _) (by simp; omega)
  go_wp2
  go_ret
  exact ⟨rfl, hB2⟩
/-- what Next answers -/
def nextV (c : SlC) (key : Int) : Int × Int := if seekE c = 0 then (if frS c.ws c.ks c.ks.length key = c.ks.length then (0, 6) else (frS c.ws c.ks c.ks.length key, 0)) else (0, seekE c)
set_option maxRecDepth 100000 in
set_option maxHeartbeats 1000000 in
theorem seekNext_ok (c : SlC) (a : SlA) (key : Int) (hl : c.ws.length ≤ 1000000000000) (hl2 : c.ks.length ≤ 1000000000000) (w : World) (hin : SlIn w c a) (hT : TabAt w) :
    Calls Tryz.prog 53 #[slV c a, .int .i64 key] w (AnsB w (.tuple #[.int .i64 (nextV c key).1, .int .i64 (nextV c key).2])) := by
  have CK := Lib.hid (fun W (hW : Below w.heap.size w W) => seekCheck_ok c a hl hl2 W (hin.below hW))
  by_cases hs : seekE c = 0
  · have FR := Lib.hid (fun W (hW : Below w.heap.size w W) => from_ok c a key hs W (hin.below hW) (hT.below hW))
    have hle := (frS_is c.ws c.ks c.ks.length key).le
    rw [hs] at CK
    by_cases hr : frS c.ws c.ks c.ks.length key = c.ks.length
    · have e : nextV c key = (0, 6) := by rw [nextV, if_pos hs, if_pos hr]
      rw [hr] at FR
      rw [e]
      clear e hr hle
      obtain ⟨seg, ws, ks, vs, cs, laid⟩ := c
      obtain ⟨wa, ka, va, ca, wc, kc, vc, cc⟩ := a
      dsimp only [slV] at *
      have g1 : ((ks.length : Int) == ks.length) = true := by simp
      clear hin hs hT hl hl2
      go_enter Tryz.func53, Tryz.ntmps53
      go_wp2_with fail
      refine (CK.out _ (by (repeat (first | with_reducible (first | exact Below.refl _ _ | assumption | exact Hid.out (by assumption) | refine Below.alloc ?_ ?_ _ | refine Below.setCell ?_ ?_ _ | refine below_drewN ?_ _ | refine Below.drew ?_ | refine below_via (by assumption) ?_ ?_) | (first | (with_reducible assumption) | omega | (simp only [szW] <;> omega) | (simp <;> omega)))))).mono ?_
      rintro e w1 ⟨rfl, hb1⟩
      have hz_w1 := hb1.size
      try simp only [World.size_alloc, World.size_setCell] at hz_w1
      have hh := bc6 hb1 (al6 (b := w.heap.size) (by simp))
      obtain ⟨c_t0, c_t1, c_t2, c_t3, c_t4, c_t5⟩ := hh
      have z_t := blt hb1 (alz (b := w.heap.size) (by simp))
      have hB1 : Below w.heap.size w w1 := by (repeat (first | with_reducible (first | exact Below.refl _ _ | assumption | exact Hid.out (by assumption) | refine Below.alloc ?_ ?_ _ | refine Below.setCell ?_ ?_ _ | refine below_drewN ?_ _ | refine Below.drew ?_ | refine below_via (by assumption) ?_ ?_) | (first | (with_reducible assumption) | omega | (simp only [szW] <;> omega) | (simp <;> omega))))
      go_wp2_with fail
      refine (FR.out _ hB1).mono ?_
      rintro e w2 ⟨rfl, hb2⟩
      have hz_w2 := hb2.size
      try simp only [World.size_alloc, World.size_setCell] at hz_w2
      have hh := bc6 hb2 ⟨c_t0, c_t1, c_t2, c_t3, c_t4, c_t5⟩
      clear c_t0 c_t1 c_t2 c_t3 c_t4 c_t5
      obtain ⟨c_t0, c_t1, c_t2, c_t3, c_t4, c_t5⟩ := hh
      replace z_t := blt hb2 z_t
      have hB2 : Below w.heap.size w w2 := by (repeat (first | with_reducible (first | exact Below.refl _ _ | assumption | exact Hid.out (by assumption) | refine Below.alloc ?_ ?_ _ | refine Below.setCell ?_ ?_ _ | refine below_drewN ?_ _ | refine Below.drew ?_ | refine below_via (by assumption) ?_ ?_) | (first | (with_reducible assumption) | omega | (simp only [szW] <;> omega) | (simp <;> omega))))
      go_wp2
      go_ret2
      exact ⟨rfl, hB2⟩
    · have e : nextV c key = (((frS c.ws c.ks c.ks.length key : Nat) : Int), 0) := by rw [nextV, if_pos hs, if_neg hr]
      rw [e]
      clear e
      generalize frS c.ws c.ks c.ks.length key = R at *
      obtain ⟨seg, ws, ks, vs, cs, laid⟩ := c
      obtain ⟨wa, ka, va, ca, wc, kc, vc, cc⟩ := a
      dsimp only [slV] at *
      have g1 : ((R : Int) == ks.length) = false := by simp; omega
      clear hin hs hT hl hl2 hr hle
      go_enter Tryz.func53, Tryz.ntmps53
      go_wp2_with fail
      refine (CK.out _ (by (repeat (first | with_reducible (first | exact Below.refl _ _ | assumption | exact Hid.out (by assumption) | refine Below.alloc ?_ ?_ _ | refine Below.setCell ?_ ?_ _ | refine below_drewN ?_ _ | refine Below.drew ?_ | refine below_via (by assumption) ?_ ?_) | (first | (with_reducible assumption) | omega | (simp only [szW] <;> omega) | (simp <;> omega)))))).mono ?_
      rintro e w1 ⟨rfl, hb1⟩
      have hz_w1 := hb1.size
      try simp only [World.size_alloc, World.size_setCell] at hz_w1
      have hh := bc6 hb1 (al6 (b := w.heap.size) (by simp))
      obtain ⟨c_t0, c_t1, c_t2, c_t3, c_t4, c_t5⟩ := hh
      have z_t := blt hb1 (alz (b := w.heap.size) (by simp))
      have hB1 : Below w.heap.size w w1 := by (repeat (first | with_reducible (first | exact Below.refl _ _ | assumption | exact Hid.out (by assumption) | refine Below.alloc ?_ ?_ _ | refine Below.setCell ?_ ?_ _ | refine below_drewN ?_ _ | refine Below.drew ?_ | refine below_via (by assumption) ?_ ?_) | (first | (with_reducible assumption) | omega | (simp only [szW] <;> omega) | (simp <;> omega))))
      go_wp2_with fail
      refine (FR.out _ hB1).mono ?_
      rintro e w2 ⟨rfl, hb2⟩
      have hz_w2 := hb2.size
      try simp only [World.size_alloc, World.size_setCell] at hz_w2
      have hh := bc6 hb2 ⟨c_t0, c_t1, c_t2, c_t3, c_t4, c_t5⟩
      clear c_t0 c_t1 c_t2 c_t3 c_t4 c_t5
      obtain ⟨c_t0, c_t1, c_t2, c_t3, c_t4, c_t5⟩ := hh
      replace z_t := blt hb2 z_t
      have hB2 : Below w.heap.size w w2 := by (repeat (first | with_reducible (first | exact Below.refl _ _ | assumption | exact Hid.out (by assumption) | refine Below.alloc ?_ ?_ _ | refine Below.setCell ?_ ?_ _ | refine below_drewN ?_ _ | refine Below.drew ?_ | refine below_via (by assumption) ?_ ?_) | (first | (with_reducible assumption) | omega | (simp only [szW] <;> omega) | (simp <;> omega))))
      go_wp2
      go_ret2
      exact ⟨rfl, hB2⟩
  · have e : nextV c key = (0, seekE c) := by rw [nextV, if_neg hs]
    rw [e]
    have g1 : (seekE c != 0) = true := by simpa using hs
    generalize seekE c = E at *
    obtain ⟨seg, ws, ks, vs, cs, laid⟩ := c
    obtain ⟨wa, ka, va, ca, wc, kc, vc, cc⟩ := a
    dsimp only [slV] at *
    clear hin hs hT hl hl2 e
    go_enter Tryz.func53, Tryz.ntmps53
    go_wp2_with fail
    refine (CK.out _ (by (repeat (first | with_reducible (first | exact Below.refl _ _ | assumption | exact Hid.out (by assumption) | refine Below.alloc ?_ ?_ _ | refine Below.setCell ?_ ?_ _ | refine below_drewN ?_ _ | refine Below.drew ?_ | refine below_via (by assumption) ?_ ?_) | (first | (with_reducible assumption) | omega | (simp only [szW] <;> omega) | (simp <;> omega)))))).mono ?_
    rintro e w1 ⟨rfl, hb1⟩
    have hz_w1 := hb1.size
    try simp only [World.size_alloc, World.size_setCell] at hz_w1
    have hh := bc6 hb1 (al6 (b := w.heap.size) (by simp))
    obtain ⟨c_t0, c_t1, c_t2, c_t3, c_t4, c_t5⟩ := hh
    have z_t := blt hb1 (alz (b := w.heap.size) (by simp))
    have hB1 : Below w.heap.size w w1 := by (repeat (first | with_reducible (first | exact Below.refl _ _ | assumption | exact Hid.out (by assumption) | refine Below.alloc ?_ ?_ _ | refine Below.setCell ?_ ?_ _ | refine below_drewN ?_ _ | refine Below.drew ?_ | refine below_via (by assumption) ?_ ?_) | (first | (with_reducible assumption) | omega | (simp only [szW] <;> omega) | (simp <;> omega))))
    go_wp2
    go_ret2
    exact ⟨rfl, hB1⟩
/-- what Find answers -/
def findV (c : SlC) (key : Int) : Int × Int := if (nextV c key).2 = 0 then (if c.ks.getD (nextV c key).1.toNat 0 = key then ((nextV c key).1, 0) else (0, 6)) else (0, (nextV c key).2)
theorem nextV_in {c : SlC} {key : Int} (h : (nextV c key).2 = 0) : ∃ r : Nat, (nextV c key).1 = r ∧ r < c.ks.length ∧ r = frS c.ws c.ks c.ks.length key ∧ seekE c = 0 := by
  unfold nextV at h ⊢
  by_cases hs : seekE c = 0
  · rw [if_pos hs] at h ⊢
    split at h
    · cases h
    · rename_i hr
      rw [if_neg hr]
      have := (frS_is c.ws c.ks c.ks.length key).le
      exact ⟨_, rfl, by omega, rfl, hs⟩
  · rw [if_neg hs] at h
    exact absurd h hs
set_option maxRecDepth 100000 in
set_option maxHeartbeats 1000000 in
theorem seekFind_ok (c : SlC) (a : SlA) (key : Int) (hl : c.ws.length ≤ 1000000000000) (hl2 : c.ks.length ≤ 1000000000000) (w : World) (hin : SlIn w c a) (hT : TabAt w) :
    Calls Tryz.prog 30 #[slV c a, .int .i64 key] w (AnsB w (.tuple #[.int .i64 (findV c key).1, .int .i64 (findV c key).2])) := by
  have NX := Lib.hid (fun W (hW : Below w.heap.size w W) => seekNext_ok c a key hl hl2 W (hin.below hW) (hT.below hW))
  by_cases h0 : (nextV c key).2 = 0
  · obtain ⟨r, e1, hr, -, -⟩ := nextV_in h0
    rw [e1, h0] at NX
    obtain ⟨b, off, x, hka, hx, hc, hlt⟩ := hin.k.get (i := r) hr
    by_cases hk : x = key
    · have e : findV c key = ((r : Int), 0) := by rw [findV, if_pos h0, e1, Int.toNat_natCast, if_pos (hx.out.trans hk)]
      rw [e]
      obtain ⟨seg, ws, ks, vs, cs, laid⟩ := c
      obtain ⟨wa, ka, va, ca, wc, kc, vc, cc⟩ := a
      dsimp only [slV] at *
      subst hka
      have g1 : (x != key) = false := by simpa using hk
      clear hin hT hl hl2 e e1 h0 hx hk
      go_enter Tryz.func30, Tryz.ntmps30
      go_wp2_with fail
      refine (NX.out _ (by (repeat (first | with_reducible (first | exact Below.refl _ _ | assumption | exact Hid.out (by assumption) | refine Below.alloc ?_ ?_ _ | refine Below.setCell ?_ ?_ _ | refine below_drewN ?_ _ | refine Below.drew ?_ | refine below_via (by assumption) ?_ ?_) | (first | (with_reducible assumption) | omega | (simp only [szW] <;> omega) | (simp <;> omega)))))).mono ?_
      rintro e w1 ⟨rfl, hb1⟩
      have hz_w1 := hb1.size
      try simp only [World.size_alloc, World.size_setCell] at hz_w1
      have hh := bc6 hb1 (al6 (b := w.heap.size) (by simp))
      obtain ⟨c_t0, c_t1, c_t2, c_t3, c_t4, c_t5⟩ := hh
      have z_t := blt hb1 (alz (b := w.heap.size) (by simp))
      have hB1 : Below w.heap.size w w1 := by (repeat (first | with_reducible (first | exact Below.refl _ _ | assumption | exact Hid.out (by assumption) | refine Below.alloc ?_ ?_ _ | refine Below.setCell ?_ ?_ _ | refine below_drewN ?_ _ | refine Below.drew ?_ | refine below_via (by assumption) ?_ ?_) | (first | (with_reducible assumption) | omega | (simp only [szW] <;> omega) | (simp <;> omega))))
      replace hc := (hB1.cell (World.block_lt_of_cell? _ _ hc)).trans hc
      go_wp2
      go_ret2
      exact ⟨rfl, hB1⟩
    · have e : findV c key = (0, 6) := by rw [findV, if_pos h0, e1, Int.toNat_natCast, if_neg (fun h => hk (hx.out.symm.trans h))]
      rw [e]
      obtain ⟨seg, ws, ks, vs, cs, laid⟩ := c
      obtain ⟨wa, ka, va, ca, wc, kc, vc, cc⟩ := a
      dsimp only [slV] at *
      subst hka
      have g1 : (x != key) = true := by simpa using hk
      clear hin hT hl hl2 e e1 h0 hx hk
      go_enter Tryz.func30, Tryz.ntmps30
      go_wp2_with fail
      refine (NX.out _ (by (repeat (first | with_reducible (first | exact Below.refl _ _ | assumption | exact Hid.out (by assumption) | refine Below.alloc ?_ ?_ _ | refine Below.setCell ?_ ?_ _ | refine below_drewN ?_ _ | refine Below.drew ?_ | refine below_via (by assumption) ?_ ?_) | (first | (with_reducible assumption) | omega | (simp only [szW] <;> omega) | (simp <;> omega)))))).mono ?_
      rintro e w1 ⟨rfl, hb1⟩
      have hz_w1 := hb1.size
      try simp only [World.size_alloc, World.size_setCell] at hz_w1
      have hh := bc6 hb1 (al6 (b := w.heap.size) (by simp))
      obtain ⟨c_t0, c_t1, c_t2, c_t3, c_t4, c_t5⟩ := hh
      have z_t := blt hb1 (alz (b := w.heap.size) (by simp))
      have hB1 : Below w.heap.size w w1 := by (repeat (first | with_reducible (first | exact Below.refl _ _ | assumption | exact Hid.out (by assumption) | refine Below.alloc ?_ ?_ _ | refine Below.setCell ?_ ?_ _ | refine below_drewN ?_ _ | refine Below.drew ?_ | refine below_via (by assumption) ?_ ?_) | (first | (with_reducible assumption) | omega | (simp only [szW] <;> omega) | (simp <;> omega))))
      replace hc := (hB1.cell (World.block_lt_of_cell? _ _ hc)).trans hc
      go_wp2
      go_ret2
      exact ⟨rfl, hB1⟩
  · have e : findV c key = (0, (nextV c key).2) := by rw [findV, if_neg h0]
    rw [e]
    have g1 : ((nextV c key).2 != 0) = true := by simpa using h0
    generalize nextV c key = R at *
    obtain ⟨seg, ws, ks, vs, cs, laid⟩ := c
    obtain ⟨wa, ka, va, ca, wc, kc, vc, cc⟩ := a
    dsimp only [slV] at *
    clear hin hT hl hl2 e h0
    go_enter Tryz.func30, Tryz.ntmps30
    go_wp2_with fail
    refine (NX.out _ (by (repeat (first | with_reducible (first | exact Below.refl _ _ | assumption | exact Hid.out (by assumption) | refine Below.alloc ?_ ?_ _ | refine Below.setCell ?_ ?_ _ | refine below_drewN ?_ _ | refine Below.drew ?_ | refine below_via (by assumption) ?_ ?_) | (first | (with_reducible assumption) | omega | (simp only [szW] <;> omega) | (simp <;> omega)))))).mono ?_
    rintro e w1 ⟨rfl, hb1⟩
    have hz_w1 := hb1.size
    try simp only [World.size_alloc, World.size_setCell] at hz_w1
    have hh := bc6 hb1 (al6 (b := w.heap.size) (by simp))
    obtain ⟨c_t0, c_t1, c_t2, c_t3, c_t4, c_t5⟩ := hh
    have z_t := blt hb1 (alz (b := w.heap.size) (by simp))
    have hB1 : Below w.heap.size w w1 := by (repeat (first | with_reducible (first | exact Below.refl _ _ | assumption | exact Hid.out (by assumption) | refine Below.alloc ?_ ?_ _ | refine Below.setCell ?_ ?_ _ | refine below_drewN ?_ _ | refine Below.drew ?_ | refine below_via (by assumption) ?_ ?_) | (first | (with_reducible assumption) | omega | (simp only [szW] <;> omega) | (simp <;> omega))))
    go_wp2
    go_ret2
    exact ⟨rfl, hB1⟩
end
end Go.Proofs.YtmnlagmmbfjbeaaGreatDoor
