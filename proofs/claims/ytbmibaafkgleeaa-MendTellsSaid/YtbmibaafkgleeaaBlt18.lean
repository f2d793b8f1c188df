/- Merged: Built18, Build18. -/
import Derived.Test.YtbmibaafkgleeaaIdxTr
import Derived.Test.YtbmibaafkgleeaaIdxTwin
import Derived.Test.YtbmibaafkgleeaaIdxRd
import Derived.Test.YtbmibaafkgleeaaInvFc
import Derived.Test.YtbmibaafkgleeaaSeekAll
namespace Go.Proofs.Ytbmibaafkgleeaa
set_option linter.unusedVariables false
set_option linter.unusedSimpArgs false
section
open Go.RowKit Go.Shelf
attribute [local go_sem] Oper.semAt_some

/-- a row of one's own, whole -/
def Fact.full {T : TypeId} (base : Nat) (e : TypeId) (he : e ≠ T) (n : Nat) (xs : List Value) : Fact T :=
  ⟨fun v w => ∃ g, v = .slice (some ⟨g, 0, none⟩) n n ∧ w.ownsRow base e 1 (.slice (some ⟨g, 0, none⟩) n n) n xs, fun _ _ _ h ⟨g, e1, k⟩ => ⟨g, e1, h.owns he k⟩⟩
theorem made_ints (n : Nat) : (madeCells (Value.int .i64 0).cells (n * 1)).toList = (List.replicate n (0 : Int)).map (Value.int .i64) := by
  rw [Nat.mul_one, List.map_replicate]
  exact toList_madeCells_one _ _
/-- 'make([]T, n)', one step of a region that draws its order -/
theorem wp_make {P : Program} {w : World} {o : Oper} {a : Act} {K : Act → World → Prop} {Q : Exit → Act → World → Prop} (l c : Operand) (t e : TypeId) (z : Value) (size bytes : Nat)
    (ht : P.underlying t = some (.slice e)) (hinfo : (P.info? e).map (fun i => (i.zero, i.size, i.bytes)) = some (some z, size, bytes)) (hbytes : bytes ≤ 1024)
    (B n : Nat) (N : Int) (hN : N = n) (hlen : n ≤ 4294967296) (hbase : B ≤ w.heap.size)
    (ho : o.op = Op.makeSlice t l c) (hl : a.eval l = .int .i64 N) (hc : a.eval c = .int .i64 N)
    (h : ∀ g w', w.heap.size ≤ g → w'.ownsRow B e size (.slice (some ⟨g, 0, none⟩) n n) n (madeCells z.cells (n * size)).toList → Below w.heap.size w w' → K (a.put o.dst (.slice (some ⟨g, 0, none⟩) n n)) w') :
    Oper.wp P o a w K Q := by
  obtain ⟨i0, hi, hz0, hz1, hz2⟩ := info_parts hinfo
  obtain ⟨w', hrun, r1, r2⟩ := run_make_full (P := P) w B t e i0 z size ht hi hz0 hz1 .i64 .i64 n (by rw [hz2]; exact Nat.le_trans (Nat.mul_le_mul hbytes hlen) (by decide)) (by unfold maxLen; omega) hbase
  subst hN
  unfold Oper.wp
  simp [execOp, ho, hl, hc, hrun, Result.andThen]
  exact h w.heap.size w' (Nat.le_refl _) r1 ((Below.refl _ _).grown r2 (Nat.le_refl _) (fun k hk => by cases hk))
/-- a box of three cells: they may be read and written -/
theorem box_three {w : World} {b : Nat} {cs : Array Value} {t : TypeId} (h : w.heap[b]? = some (.cells cs t (0, 0))) (hs : cs.size = 3) :
    ∃ x y z, w.cell? ⟨b, 0, none⟩ = some x ∧ w.cell? ⟨b, 1, none⟩ = some y ∧ w.cell? ⟨b, 2, none⟩ = some z ∧ w.frozen? ⟨b, 0, none⟩ = false ∧ w.frozen? ⟨b, 1, none⟩ = false ∧ w.frozen? ⟨b, 2, none⟩ = false := by
  refine ⟨cs[0], cs[1], cs[2], ?_, ?_, ?_, ?_, ?_, ?_⟩ <;> simp [World.cell?, World.frozen?, h, hs]
theorem block_apart {w : World} {b g : Nat} {cs : Array Value} {t e : TypeId} {B s n m c : Nat} {xs : List Value} (h : w.heap[b]? = some (.cells cs t (0, 0))) (ho : w.ownsRow B e s (.slice (some ⟨g, 0, none⟩) m c) n xs) (hne : e ≠ t) : g ≠ b := by
  rintro rfl
  obtain ⟨_, ⟨h1, _⟩ | ⟨g', c', cur', h1, _, hh, _⟩⟩ := ho
  · cases h1
  · cases h1
    rw [h] at hh
    cases hh
    exact hne rfl
theorem three_set {w2 : World} {b : Nat} {x y z p q r : Value} (b0 : w2.cell? ⟨b, 0, none⟩ = some p) (b1 : w2.cell? ⟨b, 1, none⟩ = some q) (b2 : w2.cell? ⟨b, 2, none⟩ = some r) :
    (((w2.setCell ⟨b, 0, none⟩ x).setCell ⟨b, 1, none⟩ y).setCell ⟨b, 2, none⟩ z).cell? ⟨b, 0, none⟩ = some x ∧ (((w2.setCell ⟨b, 0, none⟩ x).setCell ⟨b, 1, none⟩ y).setCell ⟨b, 2, none⟩ z).cell? ⟨b, 1, none⟩ = some y ∧ (((w2.setCell ⟨b, 0, none⟩ x).setCell ⟨b, 1, none⟩ y).setCell ⟨b, 2, none⟩ z).cell? ⟨b, 2, none⟩ = some z := by
  refine ⟨?_, ?_, ?_⟩
  · rw [World.cell?_setCell_other _ _ _ _ (by intro e; simp at e), World.cell?_setCell_other _ _ _ _ (by intro e; simp at e)]; exact World.cell?_setCell_same _ _ _ b0
  · rw [World.cell?_setCell_other _ _ _ _ (by intro e; simp at e)]; exact World.cell?_setCell_same _ _ _ (by rw [World.cell?_setCell_other _ _ _ _ (by intro e; simp at e)]; exact b1)
  · exact World.cell?_setCell_same _ _ _ (by rw [World.cell?_setCell_other _ _ _ _ (by intro e; simp at e), World.cell?_setCell_other _ _ _ _ (by intro e; simp at e)]; exact b2)

set_option maxRecDepth 100000 in
set_option maxHeartbeats 4000000 in
theorem Built18_core (seg : Int) (wa ka va ca : Option Addr) (wc kc vc cc lw lk lv lc : Nat) (laid : Int) (w : World) (l : Int) (L N : Nat) (hl : l = L) (h1 : 1 ≤ L) (h2 : L ≤ 14) (hN : N + 1 = 2 ^ L) (hlc : lc.log2 + 1 = L) (hlc2 : lc ≤ 8192) (fm fc : Nat → Int)
    (TR : Hid (∀ W, Below w.heap.size w W → ∀ n : Nat, 1 ≤ n → n < N + 1 → Calls Try.prog 109 #[.agg #[.int .i64 seg, .slice wa lw wc, .slice ka lk kc, .slice va lv vc, .slice ca lc cc, .int .u64 laid], .int .i64 l, .int .i64 n] W (AnsB W (tdV (fm n) (fc n))))) :
    Calls Try.prog 79 #[.agg #[.int .i64 seg, .slice wa lw wc, .slice ka lk kc, .slice va lv vc, .slice ca lc cc, .int .u64 laid]] w (FreshIx w l (bltF L fm fun _ => true) (bltF L fc fun _ => true)) := by
  have LG := Lib.hid (fun w => Log_any lc (lc : Int) rfl (by omega) w)
  rw [show ((lc.log2 : Nat) : Int) = l - 1 by omega] at LG
  have hNb : N + 1 ≤ 16384 := by rw [hN]; exact Nat.pow_le_pow_right (by omega) h2
  have MA := Lib.hid (fun w => Many16_ok l (by omega) (by omega) w)
  have e1 : (2 : Int) ^ l.toNat - 1 = N := by
    have : (2 : Int) ^ l.toNat = ((2 ^ L : Nat) : Int) := by rw [show l.toNat = L by omega]; push_cast; rfl
    rw [this, ← hN]; push_cast; omega
  rw [e1] at MA
  have hlb : 1 ≤ l ∧ l ≤ 14 := by omega
  have hlw : l - 1 + 1 = l := by omega
  have hlenP : (plc L).length = N := by rw [plc_length]; omega
  have HPl := Lib.hid (Places17_ok L l hl h1 h2)
  have HLP := Lib.hid hlenP
  have HPG := Lib.hid (fun k (h : k < N) => (plc_get (L := L) (n := k + 1) h1 (by omega) (by omega)))
  have HPV := Lib.hid (fun k (h : k < N) => (vpos_lay (L := L) (n := k + 1) h1 (by omega) (by omega)).1)
  have HB0 := Lib.hid (fun f => bltF_none L h1 f (p := fun n => decide (n ≤ 0)) (by intro n a b; simp; omega))
  have HBL := Lib.hid (fun f p => bltF_length (L := L) h1 f p)
  have HBS := Lib.hid (fun f k (h : k < N) => bltF_set (L := L) h1 f (p := fun n => decide (n ≤ k)) (q := fun n => decide (n ≤ k + 1)) (n := k + 1) (by omega) (by omega) (by simp) (by intro m hm; simp; omega))
  have HBA := Lib.hid (fun f => (bltF_all L h1 f (p := fun n => decide (n ≤ N)) (by intro n a b; simp; omega)).trans (bltF_all L h1 f (p := fun _ => true) (fun _ _ _ => rfl)).symm)
  rw [show 2 ^ L - 1 = N by omega] at HB0 HBL HPV
  have hN0 : 0 < N := by have : 2 ^ 1 ≤ 2 ^ L := Nat.pow_le_pow_right (by omega) h1; omega
  clear e1 hl h1 h2 hN hlc hlenP
  go_enter Try.func79, Try.ntmps79
  go_wp2_with fail
  refine (LG.out _).mono ?_
  rintro e w' ⟨rfl, rfl⟩

  go_wp2
  generalize hwz : ((w.alloc (.cells #[.int .i64 seg, .slice wa lw wc, .slice ka lk kc, .slice va lv vc, .slice ca lc cc, .int .u64 laid] 29)).alloc (.cells #[.int .i64 0, .slice none 0 0, .slice none 0 0] 25)) = wz
  have c_t0 : wz.cell? ⟨w.heap.size, 0, none⟩ = some (.int .i64 seg) := by rw [← hwz]; (first | (with_reducible assumption) | ((simp only [World.frozen?_setCell, World.frozen?_drew, World.frozen?_drewN]) <;> (with_reducible assumption)) | ((repeat (first | (with_reducible assumption) | (with_reducible refine World.cell?_setCell_same _ _ _ (by with_reducible assumption)) | (rw [World.cell?_setCell_other _ _ _ _ (by intro e; simp at e; done)]) | (with_reducible refine cell_setCell_block ?_ ?_) | (rw [World.cell?_drew]) | (rw [World.cell?_drewN]) | (dsimp only; omega))); done) | (first | (with_reducible assumption) | ((try simp (disch := first | omega | (simp only [szW] <;> omega) | fail) only [ceW]) <;> first | (with_reducible assumption) | rfl)))
  have c_t1 : wz.cell? ⟨w.heap.size, 1, none⟩ = some (.slice wa lw wc) := by rw [← hwz]; (first | (with_reducible assumption) | ((simp only [World.frozen?_setCell, World.frozen?_drew, World.frozen?_drewN]) <;> (with_reducible assumption)) | ((repeat (first | (with_reducible assumption) | (with_reducible refine World.cell?_setCell_same _ _ _ (by with_reducible assumption)) | (rw [World.cell?_setCell_other _ _ _ _ (by intro e; simp at e; done)]) | (with_reducible refine cell_setCell_block ?_ ?_) | (rw [World.cell?_drew]) | (rw [World.cell?_drewN]) | (dsimp only; omega))); done) | (first | (with_reducible assumption) | ((try simp (disch := first | omega | (simp only [szW] <;> omega) | fail) only [ceW]) <;> first | (with_reducible assumption) | rfl)))
  have c_t2 : wz.cell? ⟨w.heap.size, 2, none⟩ = some (.slice ka lk kc) := by rw [← hwz]; (first | (with_reducible assumption) | ((simp only [World.frozen?_setCell, World.frozen?_drew, World.frozen?_drewN]) <;> (with_reducible assumption)) | ((repeat (first | (with_reducible assumption) | (with_reducible refine World.cell?_setCell_same _ _ _ (by with_reducible assumption)) | (rw [World.cell?_setCell_other _ _ _ _ (by intro e; simp at e; done)]) | (with_reducible refine cell_setCell_block ?_ ?_) | (rw [World.cell?_drew]) | (rw [World.cell?_drewN]) | (dsimp only; omega))); done) | (first | (with_reducible assumption) | ((try simp (disch := first | omega | (simp only [szW] <;> omega) | fail) only [ceW]) <;> first | (with_reducible assumption) | rfl)))
  have c_t3 : wz.cell? ⟨w.heap.size, 3, none⟩ = some (.slice va lv vc) := by rw [← hwz]; (first | (with_reducible assumption) | ((simp only [World.frozen?_setCell, World.frozen?_drew, World.frozen?_drewN]) <;> (with_reducible assumption)) | ((repeat (first | (with_reducible assumption) | (with_reducible refine World.cell?_setCell_same _ _ _ (by with_reducible assumption)) | (rw [World.cell?_setCell_other _ _ _ _ (by intro e; simp at e; done)]) | (with_reducible refine cell_setCell_block ?_ ?_) | (rw [World.cell?_drew]) | (rw [World.cell?_drewN]) | (dsimp only; omega))); done) | (first | (with_reducible assumption) | ((try simp (disch := first | omega | (simp only [szW] <;> omega) | fail) only [ceW]) <;> first | (with_reducible assumption) | rfl)))
  have c_t4 : wz.cell? ⟨w.heap.size, 4, none⟩ = some (.slice ca lc cc) := by rw [← hwz]; (first | (with_reducible assumption) | ((simp only [World.frozen?_setCell, World.frozen?_drew, World.frozen?_drewN]) <;> (with_reducible assumption)) | ((repeat (first | (with_reducible assumption) | (with_reducible refine World.cell?_setCell_same _ _ _ (by with_reducible assumption)) | (rw [World.cell?_setCell_other _ _ _ _ (by intro e; simp at e; done)]) | (with_reducible refine cell_setCell_block ?_ ?_) | (rw [World.cell?_drew]) | (rw [World.cell?_drewN]) | (dsimp only; omega))); done) | (first | (with_reducible assumption) | ((try simp (disch := first | omega | (simp only [szW] <;> omega) | fail) only [ceW]) <;> first | (with_reducible assumption) | rfl)))
  have c_t5 : wz.cell? ⟨w.heap.size, 5, none⟩ = some (.int .u64 laid) := by rw [← hwz]; (first | (with_reducible assumption) | ((simp only [World.frozen?_setCell, World.frozen?_drew, World.frozen?_drewN]) <;> (with_reducible assumption)) | ((repeat (first | (with_reducible assumption) | (with_reducible refine World.cell?_setCell_same _ _ _ (by with_reducible assumption)) | (rw [World.cell?_setCell_other _ _ _ _ (by intro e; simp at e; done)]) | (with_reducible refine cell_setCell_block ?_ ?_) | (rw [World.cell?_drew]) | (rw [World.cell?_drewN]) | (dsimp only; omega))); done) | (first | (with_reducible assumption) | ((try simp (disch := first | omega | (simp only [szW] <;> omega) | fail) only [ceW]) <;> first | (with_reducible assumption) | rfl)))
  have z_t : w.heap.size < wz.heap.size := by rw [← hwz]; (first | (with_reducible assumption) | omega | (simp only [szW] <;> omega) | (simp <;> omega))
  have c_r0 : wz.cell? ⟨w.heap.size + 1, 0, none⟩ = some (.int .i64 0) := by rw [← hwz]; (first | (with_reducible assumption) | ((simp only [World.frozen?_setCell, World.frozen?_drew, World.frozen?_drewN]) <;> (with_reducible assumption)) | ((repeat (first | (with_reducible assumption) | (with_reducible refine World.cell?_setCell_same _ _ _ (by with_reducible assumption)) | (rw [World.cell?_setCell_other _ _ _ _ (by intro e; simp at e; done)]) | (with_reducible refine cell_setCell_block ?_ ?_) | (rw [World.cell?_drew]) | (rw [World.cell?_drewN]) | (dsimp only; omega))); done) | (first | (with_reducible assumption) | ((try simp (disch := first | omega | (simp only [szW] <;> omega) | fail) only [ceW]) <;> first | (with_reducible assumption) | rfl)))
  have f_r0 : wz.frozen? ⟨w.heap.size + 1, 0, none⟩ = false := by rw [← hwz]; (first | (with_reducible assumption) | ((simp only [World.frozen?_setCell, World.frozen?_drew, World.frozen?_drewN]) <;> (with_reducible assumption)) | ((repeat (first | (with_reducible assumption) | (with_reducible refine World.cell?_setCell_same _ _ _ (by with_reducible assumption)) | (rw [World.cell?_setCell_other _ _ _ _ (by intro e; simp at e; done)]) | (with_reducible refine cell_setCell_block ?_ ?_) | (rw [World.cell?_drew]) | (rw [World.cell?_drewN]) | (dsimp only; omega))); done) | (first | (with_reducible assumption) | ((try simp (disch := first | omega | (simp only [szW] <;> omega) | fail) only [ceW]) <;> first | (with_reducible assumption) | rfl)))
  have c_r1 : wz.cell? ⟨w.heap.size + 1, 1, none⟩ = some (.slice none 0 0) := by rw [← hwz]; (first | (with_reducible assumption) | ((simp only [World.frozen?_setCell, World.frozen?_drew, World.frozen?_drewN]) <;> (with_reducible assumption)) | ((repeat (first | (with_reducible assumption) | (with_reducible refine World.cell?_setCell_same _ _ _ (by with_reducible assumption)) | (rw [World.cell?_setCell_other _ _ _ _ (by intro e; simp at e; done)]) | (with_reducible refine cell_setCell_block ?_ ?_) | (rw [World.cell?_drew]) | (rw [World.cell?_drewN]) | (dsimp only; omega))); done) | (first | (with_reducible assumption) | ((try simp (disch := first | omega | (simp only [szW] <;> omega) | fail) only [ceW]) <;> first | (with_reducible assumption) | rfl)))
  have f_r1 : wz.frozen? ⟨w.heap.size + 1, 1, none⟩ = false := by rw [← hwz]; (first | (with_reducible assumption) | ((simp only [World.frozen?_setCell, World.frozen?_drew, World.frozen?_drewN]) <;> (with_reducible assumption)) | ((repeat (first | (with_reducible assumption) | (with_reducible refine World.cell?_setCell_same _ _ _ (by with_reducible assumption)) | (rw [World.cell?_setCell_other _ _ _ _ (by intro e; simp at e; done)]) | (with_reducible refine cell_setCell_block ?_ ?_) | (rw [World.cell?_drew]) | (rw [World.cell?_drewN]) | (dsimp only; omega))); done) | (first | (with_reducible assumption) | ((try simp (disch := first | omega | (simp only [szW] <;> omega) | fail) only [ceW]) <;> first | (with_reducible assumption) | rfl)))
  have c_r2 : wz.cell? ⟨w.heap.size + 1, 2, none⟩ = some (.slice none 0 0) := by rw [← hwz]; (first | (with_reducible assumption) | ((simp only [World.frozen?_setCell, World.frozen?_drew, World.frozen?_drewN]) <;> (with_reducible assumption)) | ((repeat (first | (with_reducible assumption) | (with_reducible refine World.cell?_setCell_same _ _ _ (by with_reducible assumption)) | (rw [World.cell?_setCell_other _ _ _ _ (by intro e; simp at e; done)]) | (with_reducible refine cell_setCell_block ?_ ?_) | (rw [World.cell?_drew]) | (rw [World.cell?_drewN]) | (dsimp only; omega))); done) | (first | (with_reducible assumption) | ((try simp (disch := first | omega | (simp only [szW] <;> omega) | fail) only [ceW]) <;> first | (with_reducible assumption) | rfl)))
  have f_r2 : wz.frozen? ⟨w.heap.size + 1, 2, none⟩ = false := by rw [← hwz]; (first | (with_reducible assumption) | ((simp only [World.frozen?_setCell, World.frozen?_drew, World.frozen?_drewN]) <;> (with_reducible assumption)) | ((repeat (first | (with_reducible assumption) | (with_reducible refine World.cell?_setCell_same _ _ _ (by with_reducible assumption)) | (rw [World.cell?_setCell_other _ _ _ _ (by intro e; simp at e; done)]) | (with_reducible refine cell_setCell_block ?_ ?_) | (rw [World.cell?_drew]) | (rw [World.cell?_drewN]) | (dsimp only; omega))); done) | (first | (with_reducible assumption) | ((try simp (disch := first | omega | (simp only [szW] <;> omega) | fail) only [ceW]) <;> first | (with_reducible assumption) | rfl)))
  have z_r : w.heap.size + 1 < wz.heap.size := by rw [← hwz]; (first | (with_reducible assumption) | omega | (simp only [szW] <;> omega) | (simp <;> omega))
  have HS : Hid (Below w.heap.size w wz) := by rw [← hwz]; exact Lib.hid (((Below.refl _ _).alloc (Nat.le_refl _) _).alloc (by simp) _)
  have hz : w.heap.size + 2 = wz.heap.size := by rw [← hwz]; simp
  clear hwz
  refine wp_region_facts 9 (by kernel_rfl) (N := 55) rfl (by kernel_rfl) (by kernel_rfl) (by decide) (fun w' => Below wz.heap.size wz w') (Ext 25) (factAt [.is (.int .i64 l), .is (.int .i64 l), .is (.int .i64 N), .full wz.heap.size 2 (by decide) N ((List.replicate N (0 : Int)).map (Value.int .i64)), .is (.int .i64 l), .is (.int .i64 N), .full wz.heap.size 3 (by decide) N ((List.replicate N (0 : Int)).map (Value.int .i64)), .agg3 (.is (.int .i64 l)) (.full wz.heap.size 2 (by decide) N ((List.replicate N (0 : Int)).map (Value.int .i64))) (.full wz.heap.size 3 (by decide) N ((List.replicate N (0 : Int)).map (Value.int .i64))), .box wz.heap.size 3]) (factAt_stays _) (Below.refl _ _).drew ?steps ?fin
  case steps =>
    refine ⟨?o0, ?o1, ?o2, ?o3, ?o4, ?o5, ?o6, ?o7, ?o8, trivial⟩
    case o0 =>
      intro u a w' ev hJ hd K hK
      have e3 : a.tmps.getD 3 undef = .int .i64 l := ev 3 (by decide)
      have HK := Lib.hid hK
      clear hK ev hd
      go_simp
      exact HK.out _ _ (fun h => by cases h) hJ rfl (Ext.refl _ _)
    case o1 =>
      intro u a w' ev hJ hd K hK
      have e3 : a.tmps.getD 3 undef = .int .i64 l := ev 3 (by decide)
      have HK := Lib.hid hK
      clear hK ev hd
      go_simp
      exact HK.out _ _ (fun h => by cases h) hJ rfl (Ext.refl _ _)
    case o2 =>
      intro u a w' ev hJ hd K hK
      have e14 : a.tmps.getD 14 undef = .int .i64 l := (ev 14 (by decide)).trans (hd 1 _ (by kernel_rfl) rfl)
      have HK := Lib.hid hK
      have HC := Lib.hid (MA.out w')
      clear hK ev hd
      go_simp
      refine HC.out.mono ?_
      rintro e w'' ⟨rfl, rfl⟩
      exact HK.out _ _ (fun h => by cases h) hJ rfl (Ext.refl _ _)
    case o3 =>
      intro u a w' ev hJ hd K hK
      have e15 : a.tmps.getD 15 undef = .int .i64 N := (ev 15 (by decide)).trans (hd 2 _ (by kernel_rfl) rfl)
      exact wp_make (.tmp 15) (.tmp 15) 22 2 _ 1 8 Try.underlying22 info_int64 (by decide) wz.heap.size N _ rfl (by omega) hJ.size rfl e15 e15 (fun g w'' k1 k2 k3 => hK _ _ (fun h => by cases h) (hJ.trans (k3.mono hJ.size)) ⟨g, rfl, by rw [made_ints] at k2; exact k2⟩ (Ext.below k3))
    case o4 =>
      intro u a w' ev hJ hd K hK
      have e3 : a.tmps.getD 3 undef = .int .i64 l := ev 3 (by decide)
      have HK := Lib.hid hK
      clear hK ev hd
      go_simp
      exact HK.out _ _ (fun h => by cases h) hJ rfl (Ext.refl _ _)
    case o5 =>
      intro u a w' ev hJ hd K hK
      have e17 : a.tmps.getD 17 undef = .int .i64 l := (ev 17 (by decide)).trans (hd 4 _ (by kernel_rfl) rfl)
      have HK := Lib.hid hK
      have HC := Lib.hid (MA.out w')
      clear hK ev hd
      go_simp
      refine HC.out.mono ?_
      rintro e w'' ⟨rfl, rfl⟩
      exact HK.out _ _ (fun h => by cases h) hJ rfl (Ext.refl _ _)
    case o6 =>
      intro u a w' ev hJ hd K hK
      have e18 : a.tmps.getD 18 undef = .int .i64 N := (ev 18 (by decide)).trans (hd 5 _ (by kernel_rfl) rfl)
      exact wp_make (.tmp 18) (.tmp 18) 23 3 _ 1 8 Try.underlying23 info_int (by decide) wz.heap.size N _ rfl (by omega) hJ.size rfl e18 e18 (fun g w'' k1 k2 k3 => hK _ _ (fun h => by cases h) (hJ.trans (k3.mono hJ.size)) ⟨g, rfl, by rw [made_ints] at k2; exact k2⟩ (Ext.below k3))
    case o7 =>
      intro u a w' ev hJ hd K hK
      have h1 : u 13 = .int .i64 l := hd 0 _ (by kernel_rfl) rfl
      obtain ⟨g1, h2, h3⟩ : (Fact.full (T := 25) wz.heap.size 2 (by decide) N ((List.replicate N (0 : Int)).map (Value.int .i64))).holds (u 16) w' := hd 3 _ (by kernel_rfl) rfl
      obtain ⟨g2, h4, h5⟩ : (Fact.full (T := 25) wz.heap.size 3 (by decide) N ((List.replicate N (0 : Int)).map (Value.int .i64))).holds (u 19) w' := hd 6 _ (by kernel_rfl) rfl
      have e13 : a.tmps.getD 13 undef = .int .i64 l := (ev 13 (by decide)).trans h1
      have e16 : a.tmps.getD 16 undef = .slice (some ⟨g1, 0, none⟩) N N := (ev 16 (by decide)).trans h2
      have e19 : a.tmps.getD 19 undef = .slice (some ⟨g2, 0, none⟩) N N := (ev 19 (by decide)).trans h4
      have f13 : a.tmps[13]?.getD undef = .int .i64 l := by rw [← Array.getD_eq_getD_getElem?]; exact e13
      have f16 : a.tmps[16]?.getD undef = .slice (some ⟨g1, 0, none⟩) N N := by rw [← Array.getD_eq_getD_getElem?]; exact e16
      have f19 : a.tmps[19]?.getD undef = .slice (some ⟨g2, 0, none⟩) N N := by rw [← Array.getD_eq_getD_getElem?]; exact e19
      have HK := Lib.hid hK
      have H3 := Lib.hid h3
      have H5 := Lib.hid h5
      clear hK ev hd h1 h2 h3 h4 h5
      go_simp
      exact HK.out _ _ (fun h => by cases h) hJ ⟨_, _, _, rfl, rfl, ⟨_, rfl, H3.out⟩, ⟨_, rfl, H5.out⟩⟩ (Ext.refl _ _)
    case o8 =>
      intro u a w' ev hJ hd K hK
      have HK := Lib.hid hK
      have hzJ := hJ.size
      have HJ := Lib.hid hJ
      clear hK ev hd hJ
      go_simp
      exact HK.out _ _ (fun h => by cases h) (HJ.out.alloc hzJ _) ⟨_, _, rfl, hzJ, alloc_new _ _, rfl⟩ (Ext.below ((Below.refl _ _).alloc (Nat.le_refl _) _))
  case fin =>
    intro u w2 hJ hG
    obtain ⟨x, y, z, h20, rfl, ⟨g1, rfl, ho1⟩, ⟨g2, rfl, ho2⟩⟩ : (Fact.agg3 (T := 25) (.is (.int .i64 l)) (.full wz.heap.size 2 (by decide) N ((List.replicate N (0 : Int)).map (Value.int .i64))) (.full wz.heap.size 3 (by decide) N ((List.replicate N (0 : Int)).map (Value.int .i64)))).holds (u 20) w2 := hG 7 _ rfl
    obtain ⟨b, bcs, h4, hbz, hbh, hbs⟩ : (Fact.box (T := 25) wz.heap.size 3).holds (u 4) w2 := hG 8 _ rfl
    obtain ⟨p, q, r, b0, b1, b2, q0, q1, q2⟩ := box_three hbh hbs
    have hgb1 := block_apart hbh ho1 (by decide)
    have hgb2 := block_apart hbh ho2 (by decide)
    have hg12 : g1 ≠ g2 := by
      rcases owns_apart ho1 ho2 (by decide) with h | h
      · cases h
      · intro e; exact h (by rw [e])
    have hz2 := hJ.size
    have hlb : b < w2.heap.size := World.block_lt_of_cell? _ _ b0
    have hl1 := ho1.lt g1 rfl
    have hl2 := ho2.lt g2 rfl
    have HO1 := Lib.hid ho1
    have HO2 := Lib.hid ho2
    have HJ := Lib.hid hJ
    clear hG ho1 ho2 hJ hbh hbs
    simp only [mixFrame, mixL, dstsOf, List.take_succ_cons, List.take_zero, List.filterMap_cons, List.filterMap_nil, List.contains_cons, List.contains_nil, Nat.reduceBEq, Bool.or_false, Bool.false_or, Bool.or_true, Bool.true_or, if_true, if_false, Bool.false_eq_true, Nat.reduceAdd, Nat.zero_add, List.drop_succ_cons, List.drop_zero, h20, h4]
    go_wp2_with fail
    have hsw := three_set (w2 := w2) (b := b) (x := .int .i64 l) (y := .slice (some ⟨g1, 0, none⟩) N N) (z := .slice (some ⟨g2, 0, none⟩) N N) b0 b1 b2
    have HJ3 : Hid (Below wz.heap.size wz (((w2.setCell ⟨b, 0, none⟩ (.int .i64 l)).setCell ⟨b, 1, none⟩ (.slice (some ⟨g1, 0, none⟩) N N)).setCell ⟨b, 2, none⟩ (.slice (some ⟨g2, 0, none⟩) N N))) := Lib.hid (((HJ.out.setCell (by dsimp only; omega) _).setCell (by dsimp only; omega) _).setCell (by dsimp only; omega) _)
    have HO13 := Lib.hid (owns_heap (W' := (((w2.setCell ⟨b, 0, none⟩ (.int .i64 l)).setCell ⟨b, 1, none⟩ (.slice (some ⟨g1, 0, none⟩) N N)).setCell ⟨b, 2, none⟩ (.slice (some ⟨g2, 0, none⟩) N N))) HO1.out fun k hk => by cases hk; rw [heap_setCell_ne _ _ _ hgb1, heap_setCell_ne _ _ _ hgb1, heap_setCell_ne _ _ _ hgb1])
    have HO23 := Lib.hid (owns_heap (W' := (((w2.setCell ⟨b, 0, none⟩ (.int .i64 l)).setCell ⟨b, 1, none⟩ (.slice (some ⟨g1, 0, none⟩) N N)).setCell ⟨b, 2, none⟩ (.slice (some ⟨g2, 0, none⟩) N N))) HO2.out fun k hk => by cases hk; rw [heap_setCell_ne _ _ _ hgb2, heap_setCell_ne _ _ _ hgb2, heap_setCell_ne _ _ _ hgb2])
    have hz3 : w2.heap.size = (((w2.setCell ⟨b, 0, none⟩ (.int .i64 l)).setCell ⟨b, 1, none⟩ (.slice (some ⟨g1, 0, none⟩) N N)).setCell ⟨b, 2, none⟩ (.slice (some ⟨g2, 0, none⟩) N N)).heap.size := by simp
    generalize (((w2.setCell ⟨b, 0, none⟩ (.int .i64 l)).setCell ⟨b, 1, none⟩ (.slice (some ⟨g1, 0, none⟩) N N)).setCell ⟨b, 2, none⟩ (.slice (some ⟨g2, 0, none⟩) N N)) = w3 at *
    obtain ⟨k0, k1, k2⟩ := hsw
    refine (HPl.out _).mono ?_
    rintro e w4 ⟨v4, rfl, ho4, hb4⟩
    obtain ⟨pa, pcap, rfl, hi4, hbl4, -, -, -⟩ := row_of_owns ho4
    rw [HLP.out]
    have hz4 := hb4.size
    replace k0 := (hb4.cell (p := ⟨b, 0, none⟩) (by dsimp only; omega)).trans k0
    replace k1 := (hb4.cell (p := ⟨b, 1, none⟩) (by dsimp only; omega)).trans k1
    replace k2 := (hb4.cell (p := ⟨b, 2, none⟩) (by dsimp only; omega)).trans k2
    have HJ4 := Lib.hid (HJ3.out.trans (hb4.mono (by omega)))
    have HO14 := Lib.hid (owns_below HO13.out hb4)
    have HO24 := Lib.hid (owns_below HO23.out hb4)
    have HI := Lib.hid hi4
    have HBK := Lib.hid hbl4
    clear ho4 hi4 hbl4 hb4 HJ3 HO13 HO23 HO1 HO2 HJ b0 b1 b2 q0 q1 q2
    go_wp2
    go_loopg [6] N (fun gk iv wr => ∃ k : Nat, k + gk = N ∧ iv = .int .i64 ((k : Int) + 1) ∧ wr.cell? ⟨b, 0, none⟩ = some (.int .i64 l) ∧ wr.cell? ⟨b, 1, none⟩ = some (.slice (some ⟨g1, 0, none⟩) N N) ∧ wr.cell? ⟨b, 2, none⟩ = some (.slice (some ⟨g2, 0, none⟩) N N) ∧
      Hid (wr.ownsRow wz.heap.size 2 1 (.slice (some ⟨g1, 0, none⟩) N N) N ((bltF L fm fun n => decide (n ≤ k)).map (Value.int .i64))) ∧ Hid (wr.ownsRow wz.heap.size 3 1 (.slice (some ⟨g2, 0, none⟩) N N) N ((bltF L fc fun n => decide (n ≤ k)).map (Value.int .i64))) ∧ Hid (Below wz.heap.size wz wr) ∧ Hid (IsRow .i64 wr pa (plc L)) ∧ w4.heap.size ≤ wr.heap.size)
    case atStart =>
      refine ⟨0, by omega, rfl, k0, k1, k2, Lib.hid ?_, Lib.hid ?_, HJ4, HI, Nat.le_refl _⟩
      · rw [HB0.out]; exact HO14.out
      · rw [HB0.out]; exact HO24.out
    case round =>
      obtain ⟨k, hk, rfl, c0, c1, c2, HR1, HR2, HJr, HIr, hzr⟩ := hrel
      by_cases hlt : k < N
      · have hgc : decide ((k : Int) + 1 ≤ N) = true := by simp; omega
        have HJrs := HJr.out.size
        have hz_wr := HJr.out.size
        try simp only [World.size_alloc, World.size_setCell] at hz_wr
        have c_t0 : wr.cell? ⟨w.heap.size, 0, none⟩ = some (.int .i64 seg) := (HJr.out.cell (p := ⟨w.heap.size, 0, none⟩) (by (first | (with_reducible assumption) | omega | (simp only [szW] <;> omega) | (simp <;> omega)))).trans (by (first | (with_reducible assumption) | ((try simp (disch := first | omega | (simp only [szW] <;> omega) | fail) only [ceW]) <;> first | (with_reducible assumption) | rfl)))
        have c_t1 : wr.cell? ⟨w.heap.size, 1, none⟩ = some (.slice wa lw wc) := (HJr.out.cell (p := ⟨w.heap.size, 1, none⟩) (by (first | (with_reducible assumption) | omega | (simp only [szW] <;> omega) | (simp <;> omega)))).trans (by (first | (with_reducible assumption) | ((try simp (disch := first | omega | (simp only [szW] <;> omega) | fail) only [ceW]) <;> first | (with_reducible assumption) | rfl)))
        have c_t2 : wr.cell? ⟨w.heap.size, 2, none⟩ = some (.slice ka lk kc) := (HJr.out.cell (p := ⟨w.heap.size, 2, none⟩) (by (first | (with_reducible assumption) | omega | (simp only [szW] <;> omega) | (simp <;> omega)))).trans (by (first | (with_reducible assumption) | ((try simp (disch := first | omega | (simp only [szW] <;> omega) | fail) only [ceW]) <;> first | (with_reducible assumption) | rfl)))
        have c_t3 : wr.cell? ⟨w.heap.size, 3, none⟩ = some (.slice va lv vc) := (HJr.out.cell (p := ⟨w.heap.size, 3, none⟩) (by (first | (with_reducible assumption) | omega | (simp only [szW] <;> omega) | (simp <;> omega)))).trans (by (first | (with_reducible assumption) | ((try simp (disch := first | omega | (simp only [szW] <;> omega) | fail) only [ceW]) <;> first | (with_reducible assumption) | rfl)))
        have c_t4 : wr.cell? ⟨w.heap.size, 4, none⟩ = some (.slice ca lc cc) := (HJr.out.cell (p := ⟨w.heap.size, 4, none⟩) (by (first | (with_reducible assumption) | omega | (simp only [szW] <;> omega) | (simp <;> omega)))).trans (by (first | (with_reducible assumption) | ((try simp (disch := first | omega | (simp only [szW] <;> omega) | fail) only [ceW]) <;> first | (with_reducible assumption) | rfl)))
        have c_t5 : wr.cell? ⟨w.heap.size, 5, none⟩ = some (.int .u64 laid) := (HJr.out.cell (p := ⟨w.heap.size, 5, none⟩) (by (first | (with_reducible assumption) | omega | (simp only [szW] <;> omega) | (simp <;> omega)))).trans (by (first | (with_reducible assumption) | ((try simp (disch := first | omega | (simp only [szW] <;> omega) | fail) only [ceW]) <;> first | (with_reducible assumption) | rfl)))
        have z_t : w.heap.size < wr.heap.size := by omega
        have TRk := TR.out
        go_wp2_with fail
        refine (TRk _ (by have := below_via HJr.out HS.out (by omega); (repeat (first | with_reducible (first | exact Below.refl _ _ | assumption | exact Hid.out (by assumption) | refine Below.alloc ?_ ?_ _ | refine Below.setCell ?_ ?_ _ | refine below_drewN ?_ _ | refine Below.drew ?_ | refine below_via (by assumption) ?_ ?_) | (first | (with_reducible assumption) | omega | (simp only [szW] <;> omega) | (simp <;> omega))))) (k + 1) (by omega) (by omega)).mono ?_
        rintro e w5 ⟨rfl, hb5⟩
        go_wp2
        have hz5 := hb5.size
        generalize hw6 : w5.alloc (.cells #[.int .i64 (fm (k + 1)), .int .i64 (fc (k + 1))] 125) = w6
        have hb6 : Below wr.heap.size wr w6 := by rw [← hw6]; exact hb5.alloc hz5 _
        have t0 : w6.cell? ⟨w5.heap.size, 0, none⟩ = some (.int .i64 (fm (k + 1))) := by rw [← hw6]; ((try simp (disch := first | omega | (simp only [szW] <;> omega) | fail) only [ceW]) <;> rfl)
        have t1 : w6.cell? ⟨w5.heap.size, 1, none⟩ = some (.int .i64 (fc (k + 1))) := by rw [← hw6]; ((try simp (disch := first | omega | (simp only [szW] <;> omega) | fail) only [ceW]) <;> rfl)
        have hbr : b < wr.heap.size := World.block_lt_of_cell? _ _ c0
        replace c0 := (hb6.cell (p := ⟨b, 0, none⟩) hbr).trans c0
        replace c1 := (hb6.cell (p := ⟨b, 1, none⟩) hbr).trans c1
        replace c2 := (hb6.cell (p := ⟨b, 2, none⟩) hbr).trans c2
        have HR16 := Lib.hid (owns_below HR1.out hb6)
        have HR26 := Lib.hid (owns_below HR2.out hb6)
        have HI6 := Lib.hid (HIr.out.below hb6)
        have HJ6 := Lib.hid (HJr.out.trans (hb6.mono HJrs))
        have hpV := HPV.out k hlt
        have hpG := HPG.out k hlt
        have s1 := HBS.out fm k hlt
        have s2 := HBS.out fc k hlt
        rw [Nat.add_sub_cancel] at hpG
        generalize vpos L (k + 1) = p at *
        obtain ⟨bp, op, x0, rfl, hx0, cp, zp⟩ := HI6.out.get (i := k) (by rw [HLP.out]; exact hlt)
        have hx : x0 = (p : Int) := by rw [← hx0.out, hpG]
        subst hx
        obtain ⟨d1, f1⟩ := own_cell HR16.out (j := p) (by rw [HBL.out]; exact hpV)
        obtain ⟨d2, f2⟩ := own_cell HR26.out (j := p) (by rw [HBL.out]; exact hpV)
        generalize (bltF L fm fun n => decide (n ≤ k)).getD p 0 = y1 at d1
        generalize (bltF L fc fun n => decide (n ≤ k)).getD p 0 = y2 at d2
        have hbp := (HBK.out _ rfl).1
        dsimp only at hbp
        have S1 := Lib.hid s1
        have S2 := Lib.hid s2
        have hz6 := hb6.size
        have HK := Lib.hid hk
        have hk1 : ((k : Int) + 1).toNat = k + 1 := by omega
        clear hw6 hb5 HR1 HR2 HIr HJr hpG hx0 s1 s2 hb6 hk TRk
        have hwr : IntKind.i64.wrap (k : Int) = (k : Int) := IntWalk.i64_in _ (by omega)
        have hng1 : bp ≠ g1 := by omega
        have hng2 : bp ≠ g2 := by omega
        have hnt1 : w5.heap.size ≠ g1 := by omega
        have hnt2 : w5.heap.size ≠ g2 := by omega
        go_still_tail 9, (by kernel_rfl)
        go_wp2
        generalize hw7 : (w6.setCell ⟨g1, p, none⟩ (.int .i64 (fm (k + 1)))).drew = w7
        replace c0 : w7.cell? ⟨b, 0, none⟩ = some (.int .i64 l) := by rw [← hw7]; exact (World.cell?_setCell_other _ _ _ _ (by intro e; cases e; exact hgb1 rfl)).trans c0
        replace c1 : w7.cell? ⟨b, 1, none⟩ = some (.slice (some ⟨g1, 0, none⟩) N N) := by rw [← hw7]; exact (World.cell?_setCell_other _ _ _ _ (by intro e; cases e; exact hgb1 rfl)).trans c1
        replace c2 : w7.cell? ⟨b, 2, none⟩ = some (.slice (some ⟨g2, 0, none⟩) N N) := by rw [← hw7]; exact (World.cell?_setCell_other _ _ _ _ (by intro e; cases e; exact hgb1 rfl)).trans c2
        replace t1 : w7.cell? ⟨w5.heap.size, 1, none⟩ = some (.int .i64 (fc (k + 1))) := by rw [← hw7]; exact (World.cell?_setCell_other _ _ _ _ (by intro e; simp at e <;> omega)).trans t1
        replace cp : w7.cell? ⟨bp, op + k, none⟩ = some (.int .i64 p) := by rw [← hw7]; exact (World.cell?_setCell_other _ _ _ _ (by intro e; simp at e <;> omega)).trans cp
        replace d2 : w7.cell? ⟨g2, p, none⟩ = some (.int .i64 y2) := by rw [← hw7]; exact (World.cell?_setCell_other _ _ _ _ (by intro e; simp at e <;> omega)).trans d2
        replace f2 : w7.frozen? ⟨g2, p, none⟩ = false := by rw [← hw7]; simpa [World.frozen?_setCell, World.frozen?_drew] using f2
        have HR17 : Hid (w7.ownsRow wz.heap.size 2 1 (.slice (some ⟨g1, 0, none⟩) N N) N ((bltF L fm fun n => decide (n ≤ k + 1)).map (Value.int .i64))) := by
          have := HR16.out.stored p (.int .i64 (fm (k + 1)))
          rw [← List.map_set, S1.out] at this
          rw [← hw7]
          exact Lib.hid this.1
        have HR27 : Hid (w7.ownsRow wz.heap.size 3 1 (.slice (some ⟨g2, 0, none⟩) N N) N ((bltF L fc fun n => decide (n ≤ k)).map (Value.int .i64))) := by
          rw [← hw7]
          exact Lib.hid (owns_heap HR26.out fun j hj => by cases hj; exact heap_setCell_ne _ _ _ (by dsimp only; omega))
        have HJ7 : Hid (Below wz.heap.size wz w7) := by rw [← hw7]; exact Lib.hid ((HJ6.out.setCell (by dsimp only; omega) _).drew)
        have HI7 : Hid (IsRow .i64 w7 (some ⟨bp, op, none⟩) (plc L)) := by rw [← hw7]; exact Lib.hid (((HI6.out.setCell (fun z hz => by cases hz; exact hng1) _).drewN 1))
        have hz7 : w7.heap.size = w6.heap.size := by rw [← hw7]; simp
        clear hw7 HR16 HR26 HJ6 HI6
        go_still_tail 9, (by kernel_rfl)
        go_wp2
        go_roundg (gk - 1)
        case measure => have := HK.out; omega
        case rel =>
          refine ⟨k + 1, by have := HK.out; omega, by go_num, ?_, ?_, ?_, ?_, ?_, ?_, ?_, ?_⟩
          · exact (World.cell?_setCell_other _ _ _ _ (by intro e; cases e; exact hgb2 rfl)).trans c0
          · exact (World.cell?_setCell_other _ _ _ _ (by intro e; cases e; exact hgb2 rfl)).trans c1
          · exact (World.cell?_setCell_other _ _ _ _ (by intro e; cases e; exact hgb2 rfl)).trans c2
          · exact Lib.hid (owns_heap HR17.out fun j hj => by cases hj; exact heap_setCell_ne _ _ _ (by dsimp only; omega))
          · have := HR27.out.stored p (.int .i64 (fc (k + 1)))
            rw [← List.map_set, S2.out] at this
            exact Lib.hid this.1
          · exact Lib.hid ((HJ7.out.setCell (by dsimp only; omega) _).drew)
          · exact Lib.hid (((HI7.out.setCell (fun z hz => by cases hz; exact hng2) _).drewN 1))
          · simp; omega
      · have hkN : k = N := by omega
        subst hkN
        have hgc : decide ((k : Int) + 1 ≤ k) = false := by simp <;> omega
        have q0 := (HJr.out.cell (p := ⟨w.heap.size + 1, 0, none⟩) (by dsimp only; omega)).trans c_r0
        have q1 := (HJr.out.cell (p := ⟨w.heap.size + 1, 1, none⟩) (by dsimp only; omega)).trans c_r1
        have q2 := (HJr.out.cell (p := ⟨w.heap.size + 1, 2, none⟩) (by dsimp only; omega)).trans c_r2
        have p0 := (HJr.out.frozen (p := ⟨w.heap.size + 1, 0, none⟩) (by dsimp only; omega)).trans f_r0
        have p1 := (HJr.out.frozen (p := ⟨w.heap.size + 1, 1, none⟩) (by dsimp only; omega)).trans f_r1
        have p2 := (HJr.out.frozen (p := ⟨w.heap.size + 1, 2, none⟩) (by dsimp only; omega)).trans f_r2
        go_wp2
        have hsw := three_set (w2 := wr) (b := w.heap.size + 1) (x := .int .i64 l) (y := .slice (some ⟨g1, 0, none⟩) k k) (z := .slice (some ⟨g2, 0, none⟩) k k) q0 q1 q2
        refine bodyPost_ret (results_c rfl rfl (run_loadVar_many _ Try.underlying25 rfl (by kernel_rfl) (three_at hsw.1 hsw.2.1 hsw.2.2))) rfl ⟨_, _, rfl, ?_, ?_, ?_⟩
        · rw [HBL.out]
          have := HR1.out
          rw [HBA.out] at this
          exact owns_base (owns_heap this fun j hj => by cases hj; rw [heap_setCell_ne _ _ _ (by dsimp only; omega), heap_setCell_ne _ _ _ (by dsimp only; omega), heap_setCell_ne _ _ _ (by dsimp only; omega)]) (by omega)
        · rw [HBL.out]
          have := HR2.out
          rw [HBA.out] at this
          exact owns_base (owns_heap this fun j hj => by cases hj; rw [heap_setCell_ne _ _ _ (by dsimp only; omega), heap_setCell_ne _ _ _ (by dsimp only; omega), heap_setCell_ne _ _ _ (by dsimp only; omega)]) (by omega)
        · exact (((below_via HJr.out HS.out (by omega)).setCell (by dsimp only; omega) _).setCell (by dsimp only; omega) _).setCell (by dsimp only; omega) _
end

section
open Go.RowKit Go.Shelf
attribute [local go_sem] Oper.semAt_some

theorem Built18_ok (c : SlC) (a : SlA) (hm : slMay c = true) (hM : c.cs.length ≤ 8192) (w : World) (hin : SlIn w c a) :
    Calls Try.prog 79 #[slV c a] w (FreshIx w (bLev c) (bMax c) (bCnt c)) := by
  obtain ⟨S, D, M, hS, hS2, hS4, hS64, hcm, hMD, hDM, hD13, hSM, hks, hvs, hws, hwl⟩ := bld_facts hm hM
  have hD : c.cs.length.log2 = D := by rw [hcm, hMD]
  have hL : bLev c = D + 1 := by rw [bLev, hD]
  have hp := Nat.two_pow_pos (D + 1)
  have h := Built18_core c.seg a.wa a.ka a.va a.ca a.wc a.kc a.vc a.cc c.ws.length c.ks.length c.vs.length c.cs.length c.laid w (bLev c) (bLev c) (2 ^ bLev c - 1) rfl (by omega) (by omega) (by rw [hL]; omega) (by rw [bLev]) hM (fun n => (trN c D n).1) (fun n => (trN c D n).2)
    (Lib.hid fun W hb n h1 h2 => by
      have hn : n < 2 ^ (D + 1) := by rw [hL] at h2; omega
      have hl : n.log2 < D + 1 := (Nat.log2_lt (by omega)).2 hn
      have := Tree18_ok c a hm hM (bLev c) (by rw [hL, hD]; push_cast; rfl) (D - n.log2) n h1 (by rw [hD]; omega) W (hin.below hb)
      rwa [hD] at this)
  rw [bltF_all _ (by omega) _ (fun _ _ _ => rfl), bltF_all _ (by omega) _ (fun _ _ _ => rfl)] at h
  have e1 : bMax c = (lay (bLev c) 1).map fun n => (trN c D n).1 := by rw [bMax, hD]
  have e2 : bCnt c = (lay (bLev c) 1).map fun n => (trN c D n).2 := by rw [bCnt, hD]
  rw [e1, e2]
  exact h

set_option maxHeartbeats 1000000 in
theorem asked18_core (seg : Int) (wa ka va ca : Option Addr) (wc kc vc cc lw lk lv lc : Nat) (laid : Int) (w : World) (x : Int) (CK : Hid (∀ W, Below w.heap.size w W → Calls Try.prog 107 #[.agg #[.int .i64 seg, .slice wa lw wc, .slice ka lk kc, .slice va lv vc, .slice ca lc cc, .int .u64 laid]] W (AnsB W (.int .i64 x)))) :
    Calls Try.prog 78 #[.agg #[.int .i64 seg, .slice wa lw wc, .slice ka lk kc, .slice va lv vc, .slice ca lc cc, .int .u64 laid]] w (AnsB w (.int .i64 (if x = 0 then (if 8192 < lc then 4 else 0) else x))) := by
  by_cases hx : x = 0
  · subst hx
    rw [if_pos rfl]
    by_cases h8 : 8192 < lc
    · rw [if_pos h8]
      have g1 : decide ((lc : Int) > 8192) = true := by simp; omega
      clear h8
      go_enter Try.func78, Try.ntmps78
      go_wp2_with fail
      refine (CK.out _ ((Below.refl _ _).alloc (Nat.le_refl _) _)).mono ?_
      rintro e w1 ⟨rfl, hb1⟩
      have hz_w1 := hb1.size
      try simp only [World.size_alloc, World.size_setCell] at hz_w1
      have all_c : w1.cell? ⟨w.heap.size, 0, none⟩ = some (.int .i64 seg) ∧ w1.cell? ⟨w.heap.size, 1, none⟩ = some (.slice wa lw wc) ∧ w1.cell? ⟨w.heap.size, 2, none⟩ = some (.slice ka lk kc) ∧ w1.cell? ⟨w.heap.size, 3, none⟩ = some (.slice va lv vc) ∧ w1.cell? ⟨w.heap.size, 4, none⟩ = some (.slice ca lc cc) ∧ w1.cell? ⟨w.heap.size, 5, none⟩ = some (.int .u64 laid) := by refine ⟨?_, ?_, ?_, ?_, ?_, ?_⟩ <;> (refine (hb1.cell ?_).trans ?_ <;> first | (first | (with_reducible assumption) | omega | (simp only [szW] <;> omega) | (simp <;> omega)) | (first | (with_reducible assumption) | ((try simp (disch := first | omega | (simp only [szW] <;> omega) | fail) only [ceW]) <;> first | (with_reducible assumption) | rfl)))
      have all_z : w.heap.size < w1.heap.size := by omega
      obtain ⟨c_t0, c_t1, c_t2, c_t3, c_t4, c_t5⟩ := all_c
      try clear all_c
      have z_t := all_z
      try clear all_z
      have hB1 : Below w.heap.size w w1 := by (repeat (first | with_reducible (first | exact Below.refl _ _ | assumption | exact Hid.out (by assumption) | refine Below.alloc ?_ ?_ _ | refine Below.setCell ?_ ?_ _ | refine below_drewN ?_ _ | refine Below.drew ?_ | refine below_via (by assumption) ?_ ?_) | (first | (with_reducible assumption) | omega | (simp only [szW] <;> omega) | (simp <;> omega))))
      go_wp2
      go_ret
      exact ⟨rfl, hB1⟩
    · rw [if_neg h8]
      have g1 : decide ((lc : Int) > 8192) = false := by simp; omega
      clear h8
      go_enter Try.func78, Try.ntmps78
      go_wp2_with fail
      refine (CK.out _ ((Below.refl _ _).alloc (Nat.le_refl _) _)).mono ?_
      rintro e w1 ⟨rfl, hb1⟩
      have hz_w1 := hb1.size
      try simp only [World.size_alloc, World.size_setCell] at hz_w1
      have all_c : w1.cell? ⟨w.heap.size, 0, none⟩ = some (.int .i64 seg) ∧ w1.cell? ⟨w.heap.size, 1, none⟩ = some (.slice wa lw wc) ∧ w1.cell? ⟨w.heap.size, 2, none⟩ = some (.slice ka lk kc) ∧ w1.cell? ⟨w.heap.size, 3, none⟩ = some (.slice va lv vc) ∧ w1.cell? ⟨w.heap.size, 4, none⟩ = some (.slice ca lc cc) ∧ w1.cell? ⟨w.heap.size, 5, none⟩ = some (.int .u64 laid) := by refine ⟨?_, ?_, ?_, ?_, ?_, ?_⟩ <;> (refine (hb1.cell ?_).trans ?_ <;> first | (first | (with_reducible assumption) | omega | (simp only [szW] <;> omega) | (simp <;> omega)) | (first | (with_reducible assumption) | ((try simp (disch := first | omega | (simp only [szW] <;> omega) | fail) only [ceW]) <;> first | (with_reducible assumption) | rfl)))
      have all_z : w.heap.size < w1.heap.size := by omega
      obtain ⟨c_t0, c_t1, c_t2, c_t3, c_t4, c_t5⟩ := all_c
      try clear all_c
      have z_t := all_z
      try clear all_z
      have hB1 : Below w.heap.size w w1 := by (repeat (first | with_reducible (first | exact Below.refl _ _ | assumption | exact Hid.out (by assumption) | refine Below.alloc ?_ ?_ _ | refine Below.setCell ?_ ?_ _ | refine below_drewN ?_ _ | refine Below.drew ?_ | refine below_via (by assumption) ?_ ?_) | (first | (with_reducible assumption) | omega | (simp only [szW] <;> omega) | (simp <;> omega))))
      go_wp2
      go_ret
      exact ⟨rfl, hB1⟩
  · rw [if_neg hx]
    have g1 : (x == 0) = false := by simpa using hx
    clear hx
    go_enter Try.func78, Try.ntmps78
    go_wp2_with fail
    refine (CK.out _ ((Below.refl _ _).alloc (Nat.le_refl _) _)).mono ?_
    rintro e w1 ⟨rfl, hb1⟩
    have hz_w1 := hb1.size
    try simp only [World.size_alloc, World.size_setCell] at hz_w1
    have hB1 : Below w.heap.size w w1 := by (repeat (first | with_reducible (first | exact Below.refl _ _ | assumption | exact Hid.out (by assumption) | refine Below.alloc ?_ ?_ _ | refine Below.setCell ?_ ?_ _ | refine below_drewN ?_ _ | refine Below.drew ?_ | refine below_via (by assumption) ?_ ?_) | (first | (with_reducible assumption) | omega | (simp only [szW] <;> omega) | (simp <;> omega))))
    go_wp2
    go_ret
    exact ⟨rfl, hB1⟩
theorem asked18_ok (c : SlC) (a : SlA) (hl : c.ws.length ≤ 1000000000000) (hl2 : c.ks.length ≤ 1000000000000) (w : World) (hin : SlIn w c a) :
    Calls Try.prog 78 #[slV c a] w (AnsB w (.int .i64 (bldE c))) :=
  asked18_core _ _ _ _ _ _ _ _ _ _ _ _ _ _ w (seekE c) (Lib.hid fun W hb => Check10_ok c a hl hl2 W (hin.below hb))

/-- an index of one's own, with an error beside it -/
def FreshIx2 (w : World) (L : Int) (ms cs : List Int) (x : Value) (e : Ending) (w' : World) : Prop :=
  ∃ v u, e = .returned (.tuple #[.agg #[.int .i64 L, v, u], x]) ∧ w'.ownsRow w.heap.size 2 1 v ms.length (ms.map (Value.int .i64)) ∧ w'.ownsRow w.heap.size 3 1 u cs.length (cs.map (Value.int .i64)) ∧ Below w.heap.size w w'

set_option maxRecDepth 100000 in
set_option maxHeartbeats 1000000 in
theorem Build18_no (seg : Int) (wa ka va ca : Option Addr) (wc kc vc cc lw lk lv lc : Nat) (laid : Int) (w : World) (x : Int) (hx : x ≠ 0) (AK : Hid (∀ W, Below w.heap.size w W → Calls Try.prog 78 #[.agg #[.int .i64 seg, .slice wa lw wc, .slice ka lk kc, .slice va lv vc, .slice ca lc cc, .int .u64 laid]] W (AnsB W (.int .i64 x)))) :
    Calls Try.prog 43 #[.agg #[.int .i64 seg, .slice wa lw wc, .slice ka lk kc, .slice va lv vc, .slice ca lc cc, .int .u64 laid]] w (FreshIx2 w 0 [] [] (.int .i64 x)) := by
  have g1 : (x != 0) = true := by simpa using hx
  clear hx
  go_enter Try.func43, Try.ntmps43
  go_wp2_with fail
  refine (AK.out _ (((Below.refl _ _).alloc (Nat.le_refl _) _).alloc (by simp) _)).mono ?_
  rintro e w1 ⟨rfl, hb1⟩
  have hz_w1 := hb1.size
  try simp only [World.size_alloc, World.size_setCell] at hz_w1
  have all_c : w1.cell? ⟨w.heap.size, 0, none⟩ = some (.int .i64 seg) ∧ w1.cell? ⟨w.heap.size, 1, none⟩ = some (.slice wa lw wc) ∧ w1.cell? ⟨w.heap.size, 2, none⟩ = some (.slice ka lk kc) ∧ w1.cell? ⟨w.heap.size, 3, none⟩ = some (.slice va lv vc) ∧ w1.cell? ⟨w.heap.size, 4, none⟩ = some (.slice ca lc cc) ∧ w1.cell? ⟨w.heap.size, 5, none⟩ = some (.int .u64 laid) ∧ w1.cell? ⟨w.heap.size + 1, 0, none⟩ = some (.int .i64 0) ∧ w1.cell? ⟨w.heap.size + 1, 1, none⟩ = some (.slice none 0 0) ∧ w1.cell? ⟨w.heap.size + 1, 2, none⟩ = some (.slice none 0 0) := by refine ⟨?_, ?_, ?_, ?_, ?_, ?_, ?_, ?_, ?_⟩ <;> (refine (hb1.cell ?_).trans ?_ <;> first | (first | (with_reducible assumption) | omega | (simp only [szW] <;> omega) | (simp <;> omega)) | (first | (with_reducible assumption) | ((try simp (disch := first | omega | (simp only [szW] <;> omega) | fail) only [ceW]) <;> first | (with_reducible assumption) | rfl)))
  have all_f : w1.frozen? ⟨w.heap.size + 1, 0, none⟩ = false ∧ w1.frozen? ⟨w.heap.size + 1, 1, none⟩ = false ∧ w1.frozen? ⟨w.heap.size + 1, 2, none⟩ = false := by refine ⟨?_, ?_, ?_⟩ <;> (refine (hb1.frozen ?_).trans ?_ <;> first | (first | (with_reducible assumption) | omega | (simp only [szW] <;> omega) | (simp <;> omega)) | (first | (with_reducible assumption) | ((try simp (disch := first | omega | (simp only [szW] <;> omega) | fail) only [ceW]) <;> first | (with_reducible assumption) | rfl)))
  have all_z : w.heap.size < w1.heap.size ∧ w.heap.size + 1 < w1.heap.size := by refine ⟨?_, ?_⟩ <;> (omega)
  obtain ⟨c_t0, c_t1, c_t2, c_t3, c_t4, c_t5, c_r0, c_r1, c_r2⟩ := all_c
  try clear all_c
  obtain ⟨f_r0, f_r1, f_r2⟩ := all_f
  try clear all_f
  obtain ⟨z_t, z_r⟩ := all_z
  try clear all_z
  have hB1 : Below w.heap.size w w1 := by (repeat (first | with_reducible (first | exact Below.refl _ _ | assumption | exact Hid.out (by assumption) | refine Below.alloc ?_ ?_ _ | refine Below.setCell ?_ ?_ _ | refine below_drewN ?_ _ | refine Below.drew ?_ | refine below_via (by assumption) ?_ ?_) | (first | (with_reducible assumption) | omega | (simp only [szW] <;> omega) | (simp <;> omega))))
  go_wp2
  have hsw := three_set (w2 := w1) (b := w.heap.size + 1) (x := .int .i64 0) (y := .slice none 0 0) (z := .slice none 0 0) c_r0 c_r1 c_r2
  refine bodyPost_ret (results_ct rfl rfl (run_loadVar_many _ Try.underlying25 rfl (by kernel_rfl) (three_at hsw.1 hsw.2.1 hsw.2.2))) rfl ⟨_, _, rfl, World.ownsRow_nil _ _ _ _, World.ownsRow_nil _ _ _ _, ?_⟩
  exact ((hB1.setCell (by dsimp only; omega) _).setCell (by dsimp only; omega) _).setCell (by dsimp only; omega) _
set_option maxRecDepth 100000 in
set_option maxHeartbeats 1000000 in
theorem Build18_yes (seg : Int) (wa ka va ca : Option Addr) (wc kc vc cc lw lk lv lc : Nat) (laid : Int) (w : World) (l : Int) (xs1 xs2 : List Int) (AK : Hid (∀ W, Below w.heap.size w W → Calls Try.prog 78 #[.agg #[.int .i64 seg, .slice wa lw wc, .slice ka lk kc, .slice va lv vc, .slice ca lc cc, .int .u64 laid]] W (AnsB W (.int .i64 0))))
    (BT : Hid (∀ W, Below w.heap.size w W → Calls Try.prog 79 #[.agg #[.int .i64 seg, .slice wa lw wc, .slice ka lk kc, .slice va lv vc, .slice ca lc cc, .int .u64 laid]] W (FreshIx W l xs1 xs2))) :
    Calls Try.prog 43 #[.agg #[.int .i64 seg, .slice wa lw wc, .slice ka lk kc, .slice va lv vc, .slice ca lc cc, .int .u64 laid]] w (FreshIx2 w l xs1 xs2 (.int .i64 0)) := by
  go_enter Try.func43, Try.ntmps43
  go_wp2_with fail
  refine (AK.out _ (((Below.refl _ _).alloc (Nat.le_refl _) _).alloc (by simp) _)).mono ?_
  rintro e w1 ⟨rfl, hb1⟩
  have hz_w1 := hb1.size
  try simp only [World.size_alloc, World.size_setCell] at hz_w1
  have all_c : w1.cell? ⟨w.heap.size, 0, none⟩ = some (.int .i64 seg) ∧ w1.cell? ⟨w.heap.size, 1, none⟩ = some (.slice wa lw wc) ∧ w1.cell? ⟨w.heap.size, 2, none⟩ = some (.slice ka lk kc) ∧ w1.cell? ⟨w.heap.size, 3, none⟩ = some (.slice va lv vc) ∧ w1.cell? ⟨w.heap.size, 4, none⟩ = some (.slice ca lc cc) ∧ w1.cell? ⟨w.heap.size, 5, none⟩ = some (.int .u64 laid) ∧ w1.cell? ⟨w.heap.size + 1, 0, none⟩ = some (.int .i64 0) ∧ w1.cell? ⟨w.heap.size + 1, 1, none⟩ = some (.slice none 0 0) ∧ w1.cell? ⟨w.heap.size + 1, 2, none⟩ = some (.slice none 0 0) := by refine ⟨?_, ?_, ?_, ?_, ?_, ?_, ?_, ?_, ?_⟩ <;> (refine (hb1.cell ?_).trans ?_ <;> first | (first | (with_reducible assumption) | omega | (simp only [szW] <;> omega) | (simp <;> omega)) | (first | (with_reducible assumption) | ((try simp (disch := first | omega | (simp only [szW] <;> omega) | fail) only [ceW]) <;> first | (with_reducible assumption) | rfl)))
  have all_f : w1.frozen? ⟨w.heap.size + 1, 0, none⟩ = false ∧ w1.frozen? ⟨w.heap.size + 1, 1, none⟩ = false ∧ w1.frozen? ⟨w.heap.size + 1, 2, none⟩ = false := by refine ⟨?_, ?_, ?_⟩ <;> (refine (hb1.frozen ?_).trans ?_ <;> first | (first | (with_reducible assumption) | omega | (simp only [szW] <;> omega) | (simp <;> omega)) | (first | (with_reducible assumption) | ((try simp (disch := first | omega | (simp only [szW] <;> omega) | fail) only [ceW]) <;> first | (with_reducible assumption) | rfl)))
  have all_z : w.heap.size < w1.heap.size ∧ w.heap.size + 1 < w1.heap.size := by refine ⟨?_, ?_⟩ <;> (omega)
  obtain ⟨c_t0, c_t1, c_t2, c_t3, c_t4, c_t5, c_r0, c_r1, c_r2⟩ := all_c
  try clear all_c
  obtain ⟨f_r0, f_r1, f_r2⟩ := all_f
  try clear all_f
  obtain ⟨z_t, z_r⟩ := all_z
  try clear all_z
  have hB1 : Below w.heap.size w w1 := by (repeat (first | with_reducible (first | exact Below.refl _ _ | assumption | exact Hid.out (by assumption) | refine Below.alloc ?_ ?_ _ | refine Below.setCell ?_ ?_ _ | refine below_drewN ?_ _ | refine Below.drew ?_ | refine below_via (by assumption) ?_ ?_) | (first | (with_reducible assumption) | omega | (simp only [szW] <;> omega) | (simp <;> omega))))
  go_wp2_with fail
  refine (BT.out _ hB1).mono ?_
  rintro e w2 ⟨v, u, rfl, ho1, ho2, hb2⟩
  have hz_w2 := hb2.size
  try simp only [World.size_alloc, World.size_setCell] at hz_w2
  have all_c : w2.cell? ⟨w.heap.size, 0, none⟩ = some (.int .i64 seg) ∧ w2.cell? ⟨w.heap.size, 1, none⟩ = some (.slice wa lw wc) ∧ w2.cell? ⟨w.heap.size, 2, none⟩ = some (.slice ka lk kc) ∧ w2.cell? ⟨w.heap.size, 3, none⟩ = some (.slice va lv vc) ∧ w2.cell? ⟨w.heap.size, 4, none⟩ = some (.slice ca lc cc) ∧ w2.cell? ⟨w.heap.size, 5, none⟩ = some (.int .u64 laid) ∧ w2.cell? ⟨w.heap.size + 1, 0, none⟩ = some (.int .i64 0) ∧ w2.cell? ⟨w.heap.size + 1, 1, none⟩ = some (.slice none 0 0) ∧ w2.cell? ⟨w.heap.size + 1, 2, none⟩ = some (.slice none 0 0) := by refine ⟨?_, ?_, ?_, ?_, ?_, ?_, ?_, ?_, ?_⟩ <;> (refine (hb2.cell ?_).trans ?_ <;> first | (first | (with_reducible assumption) | omega | (simp only [szW] <;> omega) | (simp <;> omega)) | (first | (with_reducible assumption) | ((try simp (disch := first | omega | (simp only [szW] <;> omega) | fail) only [ceW]) <;> first | (with_reducible assumption) | rfl)))
  have all_f : w2.frozen? ⟨w.heap.size + 1, 0, none⟩ = false ∧ w2.frozen? ⟨w.heap.size + 1, 1, none⟩ = false ∧ w2.frozen? ⟨w.heap.size + 1, 2, none⟩ = false := by refine ⟨?_, ?_, ?_⟩ <;> (refine (hb2.frozen ?_).trans ?_ <;> first | (first | (with_reducible assumption) | omega | (simp only [szW] <;> omega) | (simp <;> omega)) | (first | (with_reducible assumption) | ((try simp (disch := first | omega | (simp only [szW] <;> omega) | fail) only [ceW]) <;> first | (with_reducible assumption) | rfl)))
  have all_z : w.heap.size < w2.heap.size ∧ w.heap.size + 1 < w2.heap.size := by refine ⟨?_, ?_⟩ <;> (omega)
  clear c_t0 c_t1 c_t2 c_t3 c_t4 c_t5 c_r0 c_r1 c_r2 f_r0 f_r1 f_r2 z_t z_r
  obtain ⟨c_t0, c_t1, c_t2, c_t3, c_t4, c_t5, c_r0, c_r1, c_r2⟩ := all_c
  try clear all_c
  obtain ⟨f_r0, f_r1, f_r2⟩ := all_f
  try clear all_f
  obtain ⟨z_t, z_r⟩ := all_z
  try clear all_z
  have hB2 : Below w.heap.size w w2 := by (repeat (first | with_reducible (first | exact Below.refl _ _ | assumption | exact Hid.out (by assumption) | refine Below.alloc ?_ ?_ _ | refine Below.setCell ?_ ?_ _ | refine below_drewN ?_ _ | refine Below.drew ?_ | refine below_via (by assumption) ?_ ?_) | (first | (with_reducible assumption) | omega | (simp only [szW] <;> omega) | (simp <;> omega))))
  have HO1 := Lib.hid ho1
  have HO2 := Lib.hid ho2
  clear ho1 ho2
  obtain ⟨a8, c8, rfl, -⟩ := owns_news HO1.out
  obtain ⟨a12, c12, rfl, -⟩ := owns_news HO2.out
  go_wp2
  have hsw := three_set (w2 := w2) (b := w.heap.size + 1) (x := .int .i64 l) (y := .slice a8 xs1.length c8) (z := .slice a12 xs2.length c12) c_r0 c_r1 c_r2
  refine bodyPost_ret (results_ct rfl rfl (run_loadVar_many _ Try.underlying25 rfl (by kernel_rfl) (three_at hsw.1 hsw.2.1 hsw.2.2))) rfl ⟨_, _, rfl, ?_, ?_, ?_⟩
  · exact owns_base (owns_heap HO1.out fun k hk => by have := (HO1.out.lt k hk).1; rw [heap_setCell_ne _ _ _ (by dsimp only; omega), heap_setCell_ne _ _ _ (by dsimp only; omega), heap_setCell_ne _ _ _ (by dsimp only; omega)]) (by omega)
  · exact owns_base (owns_heap HO2.out fun k hk => by have := (HO2.out.lt k hk).1; rw [heap_setCell_ne _ _ _ (by dsimp only; omega), heap_setCell_ne _ _ _ (by dsimp only; omega), heap_setCell_ne _ _ _ (by dsimp only; omega)]) (by omega)
  · exact ((hB2.setCell (by dsimp only; omega) _).setCell (by dsimp only; omega) _).setCell (by dsimp only; omega) _
theorem Build18_ok (c : SlC) (a : SlA) (hl : c.ws.length ≤ 1000000000000) (hl2 : c.ks.length ≤ 1000000000000) (w : World) (hin : SlIn w c a) :
    Calls Try.prog 43 #[slV c a] w (FreshIx2 w (bldL c) (bldM c) (bldC c) (.int .i64 (bldE c))) := by
  have AK := Lib.hid (fun W (hb : Below w.heap.size w W) => asked18_ok c a hl hl2 W (hin.below hb))
  by_cases h : bldE c = 0
  · rw [bldL, bldM, bldC, if_pos h, if_pos h, if_pos h, h]
    rw [h] at AK
    obtain ⟨h1, h2⟩ := bldE_seek h
    exact Build18_yes _ _ _ _ _ _ _ _ _ _ _ _ _ _ w _ _ _ AK (Lib.hid fun W hb => Built18_ok c a (seekE_may h1) h2 W (hin.below hb))
  · rw [bldL, bldM, bldC, if_neg h, if_neg h, if_neg h]
    exact Build18_no _ _ _ _ _ _ _ _ _ _ _ _ _ _ w _ h AK

end
end Go.Proofs.Ytbmibaafkgleeaa
