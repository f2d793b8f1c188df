/- Tables of one's own, in a world that goes on; the reference's Moved and Back. -/
import Derived.Test.YtonmgmhkejbikaaTabFnd
import Derived.Test.YtonmgmhkejbikaaTabTwin14
import Derived.Test.YtonmgmhkejbikaaStep
namespace Go.Proofs.Ytonmgmhkejbikaa
open Go.RowKit Go.Shelf
set_option linter.unusedVariables false
set_option linter.unusedSimpArgs false

/-- both rows of a table are one's own, in blocks from B up to M -/
structure OwnTab (B M : Nat) (W : World) (v u : Value) (gs ps : List Int) : Prop where
  g : W.ownsRow B 3 1 v gs.length (gs.map (Value.int .i64))
  p : W.ownsRow B 3 1 u ps.length (ps.map (Value.int .i64))
  ne : ∀ k l, v.ownBlock = some k → u.ownBlock = some l → k ≠ l
  gm : ∀ k, v.ownBlock = some k → k < M
  pm : ∀ k, u.ownBlock = some k → k < M

theorem OwnTab.mk' {B : Nat} {W : World} {v u : Value} {gs ps : List Int} (h1 : W.ownsRow B 3 1 v gs.length (gs.map (Value.int .i64))) (h2 : W.ownsRow B 3 1 u ps.length (ps.map (Value.int .i64)))
    (h3 : ∀ k l, v.ownBlock = some k → u.ownBlock = some l → k ≠ l) : OwnTab B W.heap.size W v u gs ps := ⟨h1, h2, h3, fun k hk => (h1.lt k hk).2, fun k hk => (h2.lt k hk).2⟩
theorem OwnTab.mono {B B' M M' : Nat} {W : World} {v u : Value} {gs ps : List Int} (h : OwnTab B M W v u gs ps) (hB : B' ≤ B) (hM : M ≤ M') : OwnTab B' M' W v u gs ps :=
  ⟨owns_base h.g hB, owns_base h.p hB, h.ne, fun k hk => Nat.lt_of_lt_of_le (h.gm k hk) hM, fun k hk => Nat.lt_of_lt_of_le (h.pm k hk) hM⟩
theorem OwnTab.below {B M : Nat} {W W' : World} {v u : Value} {gs ps : List Int} (h : OwnTab B M W v u gs ps) (hb : Below W.heap.size W W') : OwnTab B M W' v u gs ps :=
  ⟨owns_below h.g hb, owns_below h.p hb, h.ne, h.gm, h.pm⟩
theorem OwnTab.heap {B M : Nat} {W W' : World} {v u : Value} {gs ps : List Int} (h : OwnTab B M W v u gs ps) (hh : ∀ k, B ≤ k → k < M → W'.heap[k]? = W.heap[k]?) : OwnTab B M W' v u gs ps :=
  ⟨owns_heap h.g fun k hk => hh k (h.g.lt k hk).1 (h.gm k hk), owns_heap h.p fun k hk => hh k (h.p.lt k hk).1 (h.pm k hk), h.ne, h.gm, h.pm⟩
theorem OwnTab.other {B M : Nat} {W : World} {v u : Value} {gs ps : List Int} (h : OwnTab B M W v u gs ps) (p : Addr) (x : Value) (hp : p.block < B ∨ M ≤ p.block) : OwnTab B M (W.setCell p x) v u gs ps :=
  h.heap fun k h1 h2 => heap_setCell_ne _ _ _ (by omega)
theorem OwnTab.alloc {B M : Nat} {W : World} {v u : Value} {gs ps : List Int} (h : OwnTab B M W v u gs ps) (o : Obj) : OwnTab B M (W.alloc o) v u gs ps :=
  h.below ((Below.refl _ _).alloc (Nat.le_refl _) _)
theorem OwnTab.drewN {B M : Nat} {W : World} {v u : Value} {gs ps : List Int} (h : OwnTab B M W v u gs ps) (n : Nat) : OwnTab B M (W.drewN n) v u gs ps :=
  h.heap fun k _ _ => rfl
theorem OwnTab.drew {B M : Nat} {W : World} {v u : Value} {gs ps : List Int} (h : OwnTab B M W v u gs ps) : OwnTab B M W.drew v u gs ps :=
  h.heap fun k _ _ => rfl

theorem row_some {W : World} {B : Nat} {v : Value} {xs : List Int} (h : W.ownsRow B 3 1 v xs.length (xs.map (Value.int .i64))) {k : Nat} (hk : k < xs.length) :
    ∃ b cap x, v = .slice (some ⟨b, 0, none⟩) xs.length cap ∧ B ≤ b ∧ b < W.heap.size ∧ Hid (xs.getD k 0 = x) ∧ W.cell? ⟨b, k, none⟩ = some (.int .i64 x) ∧ W.frozen? ⟨b, k, none⟩ = false ∧
      ∀ y : Int, (W.setCell ⟨b, k, none⟩ (.int .i64 y)).ownsRow B 3 1 v (xs.set k y).length ((xs.set k y).map (Value.int .i64)) := by
  obtain ⟨b, cap, rfl, hb, _⟩ := owns_some h (by omega)
  obtain ⟨⟨x, hx, hc⟩, hf, hs⟩ := ints_cell h hk
  exact ⟨b, cap, x, rfl, hb, (h.lt b rfl).2, hx, hc, hf, hs⟩

/-- a place is written -/
theorem OwnTab.ats {B M : Nat} {W : World} {v u : Value} {gs ps : List Int} (h : OwnTab B M W v u gs ps) {k : Nat} (hk : k < ps.length) :
    ∃ b cap x, u = .slice (some ⟨b, 0, none⟩) ps.length cap ∧ B ≤ b ∧ b < M ∧ b < W.heap.size ∧ Hid (ps.getD k 0 = x) ∧ W.cell? ⟨b, k, none⟩ = some (.int .i64 x) ∧ W.frozen? ⟨b, k, none⟩ = false ∧
      ∀ y : Int, OwnTab B M (W.setCell ⟨b, k, none⟩ (.int .i64 y)) v u gs (ps.set k y) := by
  obtain ⟨b, cap, x, rfl, hb, hz, hx, hc, hf, hs⟩ := row_some h.p hk
  refine ⟨b, cap, x, rfl, hb, h.pm b rfl, hz, hx, hc, hf, fun y => ⟨owns_heap h.g fun j hj => heap_setCell_ne _ _ _ (h.ne j b hj rfl), hs y, ?_, h.gm, ?_⟩⟩
  · exact h.ne
  · exact h.pm
/-- how often one came back is written -/
theorem OwnTab.gens {B M : Nat} {W : World} {v u : Value} {gs ps : List Int} (h : OwnTab B M W v u gs ps) {k : Nat} (hk : k < gs.length) :
    ∃ b cap x, v = .slice (some ⟨b, 0, none⟩) gs.length cap ∧ B ≤ b ∧ b < M ∧ b < W.heap.size ∧ Hid (gs.getD k 0 = x) ∧ W.cell? ⟨b, k, none⟩ = some (.int .i64 x) ∧ W.frozen? ⟨b, k, none⟩ = false ∧
      ∀ y : Int, OwnTab B M (W.setCell ⟨b, k, none⟩ (.int .i64 y)) v u (gs.set k y) ps := by
  obtain ⟨b, cap, x, rfl, hb, hz, hx, hc, hf, hs⟩ := row_some h.g hk
  exact ⟨b, cap, x, rfl, hb, h.gm b rfl, hz, hx, hc, hf, fun y => ⟨hs y, owns_heap h.p fun j hj => heap_setCell_ne _ _ _ (fun e => h.ne b j rfl hj e.symm), h.ne, h.gm, h.pm⟩⟩

/-- what a table that is handed back is -/
theorem FreshTab.of {w W : World} {B M : Nat} {v u : Value} {gs ps : List Int} (h : OwnTab B M W v u gs ps) (hB : w.heap.size ≤ B) (hb : Below w.heap.size w W) : FreshTab w gs ps (.returned (.agg #[v, u])) W :=
  ⟨v, u, rfl, owns_base h.g hB, owns_base h.p hB, h.ne, hb⟩

set_option maxHeartbeats 1000000 in
theorem Moved_ok (ga aa : Option Addr) (gc ac : Nat) (gs ps : List Int) (n at_ : Int) (w : World) (hg : IsInts w ga gs) (hp : IsInts w aa ps) (hlg : gs.length ≤ 65536) (hlp : ps.length ≤ 65536) (hgn : ga = none → gc = 0) (han : aa = none → ac = 0)
    (h0 : 0 ≤ n) (h1 : n < ps.length) :
    Calls Try.prog 37 #[tabV ga gs.length gc aa ps.length ac, .int .i64 n, .int .i64 at_] w (FreshTab w gs (ps.set n.toNat at_)) := by
  have HG := Lib.hid hg
  have HP := Lib.hid hp
  have H14 := Lib.hid (fun w' (hb : Below w.heap.size w w') => Twin14_ok ga aa gc ac gs ps w' (HG.out.below hb) (HP.out.below hb) hlg hlp hgn han)
  clear hg hp hgn han
  go_enter Try.func37, Try.ntmps37
  go_wp2_with fail
  refine (H14.out _ (by (repeat (first | (with_reducible exact Below.refl _ _) | (with_reducible assumption) | (with_reducible exact Hid.out (by with_reducible assumption)) | (with_reducible refine Below.alloc ?_ ?_ _) | (with_reducible refine Below.setCell ?_ ?_ _) | (with_reducible refine below_drewN ?_ _) | (with_reducible refine Below.drew ?_) | (with_reducible refine below_via (by with_reducible assumption) ?_ ?_) | (first | (with_reducible assumption) | omega | (simp only [World.size_alloc, World.size_setCell, World.size_drew, World.heap_drewN] <;> omega) | (simp <;> omega)))))).mono ?_
  rintro e w1 ⟨v, u, rfl, hov, hou, hne, hb1⟩
  have hz_w1 := hb1.size
  try simp only [World.size_alloc, World.size_setCell] at hz_w1
  have c_t0 : w1.cell? ⟨w.heap.size, 0, none⟩ = some (.slice ga gs.length gc) := (hb1.cell (p := ⟨w.heap.size, 0, none⟩) (by (first | (with_reducible assumption) | omega | (simp only [World.size_alloc, World.size_setCell, World.size_drew, World.heap_drewN] <;> omega) | (simp <;> omega)))).trans (by (first | (with_reducible assumption) | ((try simp (disch := first | omega | (simp only [World.size_alloc, World.size_setCell, World.size_drew, World.heap_drewN] <;> omega) | fail) only [World.cell?_alloc_past, World.cell?_alloc_at, World.frozen?_alloc_past, World.frozen?_alloc_at, World.frozen?_setCell, World.cell?_drew, World.frozen?_drew]) <;> first | (with_reducible assumption) | rfl)))
  have c_t1 : w1.cell? ⟨w.heap.size, 1, none⟩ = some (.slice aa ps.length ac) := (hb1.cell (p := ⟨w.heap.size, 1, none⟩) (by (first | (with_reducible assumption) | omega | (simp only [World.size_alloc, World.size_setCell, World.size_drew, World.heap_drewN] <;> omega) | (simp <;> omega)))).trans (by (first | (with_reducible assumption) | ((try simp (disch := first | omega | (simp only [World.size_alloc, World.size_setCell, World.size_drew, World.heap_drewN] <;> omega) | fail) only [World.cell?_alloc_past, World.cell?_alloc_at, World.frozen?_alloc_past, World.frozen?_alloc_at, World.frozen?_setCell, World.cell?_drew, World.frozen?_drew]) <;> first | (with_reducible assumption) | rfl)))
  have z_t : w.heap.size < w1.heap.size := by omega
  have c_r0 : w1.cell? ⟨w.heap.size + 1, 0, none⟩ = some (.slice none 0 0) := (hb1.cell (p := ⟨w.heap.size + 1, 0, none⟩) (by (first | (with_reducible assumption) | omega | (simp only [World.size_alloc, World.size_setCell, World.size_drew, World.heap_drewN] <;> omega) | (simp <;> omega)))).trans (by (first | (with_reducible assumption) | ((try simp (disch := first | omega | (simp only [World.size_alloc, World.size_setCell, World.size_drew, World.heap_drewN] <;> omega) | fail) only [World.cell?_alloc_past, World.cell?_alloc_at, World.frozen?_alloc_past, World.frozen?_alloc_at, World.frozen?_setCell, World.cell?_drew, World.frozen?_drew]) <;> first | (with_reducible assumption) | rfl)))
  have f_r0 : w1.frozen? ⟨w.heap.size + 1, 0, none⟩ = false := (hb1.frozen (p := ⟨w.heap.size + 1, 0, none⟩) (by (first | (with_reducible assumption) | omega | (simp only [World.size_alloc, World.size_setCell, World.size_drew, World.heap_drewN] <;> omega) | (simp <;> omega)))).trans (by (first | (with_reducible assumption) | ((try simp (disch := first | omega | (simp only [World.size_alloc, World.size_setCell, World.size_drew, World.heap_drewN] <;> omega) | fail) only [World.cell?_alloc_past, World.cell?_alloc_at, World.frozen?_alloc_past, World.frozen?_alloc_at, World.frozen?_setCell, World.cell?_drew, World.frozen?_drew]) <;> first | (with_reducible assumption) | rfl)))
  have c_r1 : w1.cell? ⟨w.heap.size + 1, 1, none⟩ = some (.slice none 0 0) := (hb1.cell (p := ⟨w.heap.size + 1, 1, none⟩) (by (first | (with_reducible assumption) | omega | (simp only [World.size_alloc, World.size_setCell, World.size_drew, World.heap_drewN] <;> omega) | (simp <;> omega)))).trans (by (first | (with_reducible assumption) | ((try simp (disch := first | omega | (simp only [World.size_alloc, World.size_setCell, World.size_drew, World.heap_drewN] <;> omega) | fail) only [World.cell?_alloc_past, World.cell?_alloc_at, World.frozen?_alloc_past, World.frozen?_alloc_at, World.frozen?_setCell, World.cell?_drew, World.frozen?_drew]) <;> first | (with_reducible assumption) | rfl)))
  have f_r1 : w1.frozen? ⟨w.heap.size + 1, 1, none⟩ = false := (hb1.frozen (p := ⟨w.heap.size + 1, 1, none⟩) (by (first | (with_reducible assumption) | omega | (simp only [World.size_alloc, World.size_setCell, World.size_drew, World.heap_drewN] <;> omega) | (simp <;> omega)))).trans (by (first | (with_reducible assumption) | ((try simp (disch := first | omega | (simp only [World.size_alloc, World.size_setCell, World.size_drew, World.heap_drewN] <;> omega) | fail) only [World.cell?_alloc_past, World.cell?_alloc_at, World.frozen?_alloc_past, World.frozen?_alloc_at, World.frozen?_setCell, World.cell?_drew, World.frozen?_drew]) <;> first | (with_reducible assumption) | rfl)))
  have z_r : w.heap.size + 1 < w1.heap.size := by omega
  obtain ⟨va, vc, rfl, -, -, -⟩ := ints_of_owns hov
  have hB : Below w.heap.size w w1 := by (repeat (first | (with_reducible exact Below.refl _ _) | (with_reducible assumption) | (with_reducible exact Hid.out (by with_reducible assumption)) | (with_reducible refine Below.alloc ?_ ?_ _) | (with_reducible refine Below.setCell ?_ ?_ _) | (with_reducible refine below_drewN ?_ _) | (with_reducible refine Below.drew ?_) | (with_reducible refine below_via (by with_reducible assumption) ?_ ?_) | (first | (with_reducible assumption) | omega | (simp only [World.size_alloc, World.size_setCell, World.size_drew, World.heap_drewN] <;> omega) | (simp <;> omega))))
  have hown := OwnTab.mk' (owns_base hov (base' := w.heap.size + 1 + 1) (by simp)) (owns_base hou (base' := w.heap.size + 1 + 1) (by simp)) hne
  obtain ⟨b, cap, x, rfl, hb, hbM, hbz, hx, hcx, hfx, hset⟩ := hown.ats (k := n.toNat) (by omega)
  have HS := Lib.hid (hset at_)
  clear hb1 hov hou hne hset hown
  go_wp2
  have hc0 := cell_setCell_block (p := ⟨b, n.toNat, none⟩) (x := .int .i64 at_) c_r0 (by show w.heap.size + 1 ≠ b; omega)
  have hc1 := cell_setCell_block (p := ⟨b, n.toNat, none⟩) (x := .int .i64 at_) c_r1 (by show w.heap.size + 1 ≠ b; omega)
  obtain ⟨k0, k1⟩ := box2_stored (x := .slice va gs.length vc) (y := .slice (some ⟨b, 0, none⟩) ps.length cap) hc0 hc1
  exact bodyPost_ret (results_c rfl rfl (run_loadVar_two Try.underlying24 rfl (by kernel_rfl) (by (first | (with_reducible assumption) | ((try simp (disch := first | omega | (simp only [World.size_alloc, World.size_setCell, World.size_drew, World.heap_drewN] <;> omega) | fail) only [World.cell?_alloc_past, World.cell?_alloc_at, World.frozen?_alloc_past, World.frozen?_alloc_at, World.frozen?_setCell, World.cell?_drew, World.frozen?_drew]) <;> first | (with_reducible assumption) | rfl))) (by (first | (with_reducible assumption) | ((try simp (disch := first | omega | (simp only [World.size_alloc, World.size_setCell, World.size_drew, World.heap_drewN] <;> omega) | fail) only [World.cell?_alloc_past, World.cell?_alloc_at, World.frozen?_alloc_past, World.frozen?_alloc_at, World.frozen?_setCell, World.cell?_drew, World.frozen?_drew]) <;> first | (with_reducible assumption) | rfl))))) rfl
    (FreshTab.of (((HS.out.other _ _ (.inl (by show w.heap.size + 1 < _; omega))).other _ _ (.inl (by show w.heap.size + 1 < _; omega))).alloc _) (by omega) (by (repeat (first | (with_reducible exact Below.refl _ _) | (with_reducible assumption) | (with_reducible exact Hid.out (by with_reducible assumption)) | (with_reducible refine Below.alloc ?_ ?_ _) | (with_reducible refine Below.setCell ?_ ?_ _) | (with_reducible refine below_drewN ?_ _) | (with_reducible refine Below.drew ?_) | (with_reducible refine below_via (by with_reducible assumption) ?_ ?_) | (first | (with_reducible assumption) | omega | (simp only [World.size_alloc, World.size_setCell, World.size_drew, World.heap_drewN] <;> omega) | (simp <;> omega))))))

set_option maxHeartbeats 1000000 in
theorem Back_ok (ga aa : Option Addr) (gc ac : Nat) (gs ps : List Int) (n : Int) (w : World) (hg : IsInts w ga gs) (hp : IsInts w aa ps) (hlg : gs.length ≤ 65536) (hlp : ps.length ≤ 65536) (hgn : ga = none → gc = 0) (han : aa = none → ac = 0)
    (h0 : 0 ≤ n) (h1 : n < ps.length) (h2 : ps.length = gs.length) (h3 : 0 ≤ gs.getD n.toNat 0) (h4 : gs.getD n.toNat 0 ≤ 2147483647) :
    Calls Try.prog 38 #[tabV ga gs.length gc aa ps.length ac, .int .i64 n] w (FreshTab w (gs.set n.toNat (gs.getD n.toNat 0 + 1)) (ps.set n.toNat (-1))) := by
  have HG := Lib.hid hg
  have HP := Lib.hid hp
  have H2 := Lib.hid h2
  have h1' : n < gs.length := by omega
  have H14 := Lib.hid (fun w' (hb : Below w.heap.size w w') => Moved_ok ga aa gc ac gs ps n (-1) w' (HG.out.below hb) (HP.out.below hb) hlg hlp hgn han h0 h1)
  obtain ⟨qs, hqs⟩ : ∃ qs, ps.set n.toNat (-1) = qs := ⟨_, rfl⟩
  rw [hqs] at H14 ⊢
  clear hg hp hgn han h2 hqs
  go_enter Try.func38, Try.ntmps38
  go_wp2_with fail
  refine (H14.out _ (by (repeat (first | (with_reducible exact Below.refl _ _) | (with_reducible assumption) | (with_reducible exact Hid.out (by with_reducible assumption)) | (with_reducible refine Below.alloc ?_ ?_ _) | (with_reducible refine Below.setCell ?_ ?_ _) | (with_reducible refine below_drewN ?_ _) | (with_reducible refine Below.drew ?_) | (with_reducible refine below_via (by with_reducible assumption) ?_ ?_) | (first | (with_reducible assumption) | omega | (simp only [World.size_alloc, World.size_setCell, World.size_drew, World.heap_drewN] <;> omega) | (simp <;> omega)))))).mono ?_
  rintro e w1 ⟨v, u, rfl, hov, hou, hne, hb1⟩
  have hz_w1 := hb1.size
  try simp only [World.size_alloc, World.size_setCell] at hz_w1
  have c_t0 : w1.cell? ⟨w.heap.size, 0, none⟩ = some (.slice ga gs.length gc) := (hb1.cell (p := ⟨w.heap.size, 0, none⟩) (by (first | (with_reducible assumption) | omega | (simp only [World.size_alloc, World.size_setCell, World.size_drew, World.heap_drewN] <;> omega) | (simp <;> omega)))).trans (by (first | (with_reducible assumption) | ((try simp (disch := first | omega | (simp only [World.size_alloc, World.size_setCell, World.size_drew, World.heap_drewN] <;> omega) | fail) only [World.cell?_alloc_past, World.cell?_alloc_at, World.frozen?_alloc_past, World.frozen?_alloc_at, World.frozen?_setCell, World.cell?_drew, World.frozen?_drew]) <;> first | (with_reducible assumption) | rfl)))
  have c_t1 : w1.cell? ⟨w.heap.size, 1, none⟩ = some (.slice aa ps.length ac) := (hb1.cell (p := ⟨w.heap.size, 1, none⟩) (by (first | (with_reducible assumption) | omega | (simp only [World.size_alloc, World.size_setCell, World.size_drew, World.heap_drewN] <;> omega) | (simp <;> omega)))).trans (by (first | (with_reducible assumption) | ((try simp (disch := first | omega | (simp only [World.size_alloc, World.size_setCell, World.size_drew, World.heap_drewN] <;> omega) | fail) only [World.cell?_alloc_past, World.cell?_alloc_at, World.frozen?_alloc_past, World.frozen?_alloc_at, World.frozen?_setCell, World.cell?_drew, World.frozen?_drew]) <;> first | (with_reducible assumption) | rfl)))
  have z_t : w.heap.size < w1.heap.size := by omega
  have c_r0 : w1.cell? ⟨w.heap.size + 1, 0, none⟩ = some (.slice none 0 0) := (hb1.cell (p := ⟨w.heap.size + 1, 0, none⟩) (by (first | (with_reducible assumption) | omega | (simp only [World.size_alloc, World.size_setCell, World.size_drew, World.heap_drewN] <;> omega) | (simp <;> omega)))).trans (by (first | (with_reducible assumption) | ((try simp (disch := first | omega | (simp only [World.size_alloc, World.size_setCell, World.size_drew, World.heap_drewN] <;> omega) | fail) only [World.cell?_alloc_past, World.cell?_alloc_at, World.frozen?_alloc_past, World.frozen?_alloc_at, World.frozen?_setCell, World.cell?_drew, World.frozen?_drew]) <;> first | (with_reducible assumption) | rfl)))
  have f_r0 : w1.frozen? ⟨w.heap.size + 1, 0, none⟩ = false := (hb1.frozen (p := ⟨w.heap.size + 1, 0, none⟩) (by (first | (with_reducible assumption) | omega | (simp only [World.size_alloc, World.size_setCell, World.size_drew, World.heap_drewN] <;> omega) | (simp <;> omega)))).trans (by (first | (with_reducible assumption) | ((try simp (disch := first | omega | (simp only [World.size_alloc, World.size_setCell, World.size_drew, World.heap_drewN] <;> omega) | fail) only [World.cell?_alloc_past, World.cell?_alloc_at, World.frozen?_alloc_past, World.frozen?_alloc_at, World.frozen?_setCell, World.cell?_drew, World.frozen?_drew]) <;> first | (with_reducible assumption) | rfl)))
  have c_r1 : w1.cell? ⟨w.heap.size + 1, 1, none⟩ = some (.slice none 0 0) := (hb1.cell (p := ⟨w.heap.size + 1, 1, none⟩) (by (first | (with_reducible assumption) | omega | (simp only [World.size_alloc, World.size_setCell, World.size_drew, World.heap_drewN] <;> omega) | (simp <;> omega)))).trans (by (first | (with_reducible assumption) | ((try simp (disch := first | omega | (simp only [World.size_alloc, World.size_setCell, World.size_drew, World.heap_drewN] <;> omega) | fail) only [World.cell?_alloc_past, World.cell?_alloc_at, World.frozen?_alloc_past, World.frozen?_alloc_at, World.frozen?_setCell, World.cell?_drew, World.frozen?_drew]) <;> first | (with_reducible assumption) | rfl)))
  have f_r1 : w1.frozen? ⟨w.heap.size + 1, 1, none⟩ = false := (hb1.frozen (p := ⟨w.heap.size + 1, 1, none⟩) (by (first | (with_reducible assumption) | omega | (simp only [World.size_alloc, World.size_setCell, World.size_drew, World.heap_drewN] <;> omega) | (simp <;> omega)))).trans (by (first | (with_reducible assumption) | ((try simp (disch := first | omega | (simp only [World.size_alloc, World.size_setCell, World.size_drew, World.heap_drewN] <;> omega) | fail) only [World.cell?_alloc_past, World.cell?_alloc_at, World.frozen?_alloc_past, World.frozen?_alloc_at, World.frozen?_setCell, World.cell?_drew, World.frozen?_drew]) <;> first | (with_reducible assumption) | rfl)))
  have z_r : w.heap.size + 1 < w1.heap.size := by omega
  obtain ⟨va, vc, rfl, -, -, -⟩ := ints_of_owns hov
  obtain ⟨ua, uc, rfl, -, -, -⟩ := ints_of_owns hou
  have hB : Below w.heap.size w w1 := by (repeat (first | (with_reducible exact Below.refl _ _) | (with_reducible assumption) | (with_reducible exact Hid.out (by with_reducible assumption)) | (with_reducible refine Below.alloc ?_ ?_ _) | (with_reducible refine Below.setCell ?_ ?_ _) | (with_reducible refine below_drewN ?_ _) | (with_reducible refine Below.drew ?_) | (with_reducible refine below_via (by with_reducible assumption) ?_ ?_) | (first | (with_reducible assumption) | omega | (simp only [World.size_alloc, World.size_setCell, World.size_drew, World.heap_drewN] <;> omega) | (simp <;> omega))))
  have hown := OwnTab.mk' (owns_base hov (base' := w.heap.size + 1 + 1) (by simp)) (owns_base hou (base' := w.heap.size + 1 + 1) (by simp)) hne
  obtain ⟨b, cap, x, hv, hb, hbM, hbz, hx, hcx, hfx, hset⟩ := hown.gens (k := n.toNat) (by omega)
  cases hv
  rw [hx.out] at h3 h4
  have HS := Lib.hid (hset (x + 1))
  clear hb1 hov hou hne hset hown
  go_wp2
  have hc0 := cell_setCell_block (p := ⟨b, n.toNat, none⟩) (x := .int .i64 (x + 1)) c_r0 (by show w.heap.size + 1 ≠ b; omega)
  have hc1 := cell_setCell_block (p := ⟨b, n.toNat, none⟩) (x := .int .i64 (x + 1)) c_r1 (by show w.heap.size + 1 ≠ b; omega)
  obtain ⟨k0, k1⟩ := box2_stored (x := .slice (some ⟨b, 0, none⟩) gs.length vc) (y := .slice ua qs.length uc) hc0 hc1
  rw [hx.out]
  exact bodyPost_ret (results_c rfl rfl (run_loadVar_two Try.underlying24 rfl (by kernel_rfl) (by (first | (with_reducible assumption) | ((try simp (disch := first | omega | (simp only [World.size_alloc, World.size_setCell, World.size_drew, World.heap_drewN] <;> omega) | fail) only [World.cell?_alloc_past, World.cell?_alloc_at, World.frozen?_alloc_past, World.frozen?_alloc_at, World.frozen?_setCell, World.cell?_drew, World.frozen?_drew]) <;> first | (with_reducible assumption) | rfl))) (by (first | (with_reducible assumption) | ((try simp (disch := first | omega | (simp only [World.size_alloc, World.size_setCell, World.size_drew, World.heap_drewN] <;> omega) | fail) only [World.cell?_alloc_past, World.cell?_alloc_at, World.frozen?_alloc_past, World.frozen?_alloc_at, World.frozen?_setCell, World.cell?_drew, World.frozen?_drew]) <;> first | (with_reducible assumption) | rfl))))) rfl
    (FreshTab.of (((HS.out.other _ _ (.inl (by show w.heap.size + 1 < _; omega))).other _ _ (.inl (by show w.heap.size + 1 < _; omega))).alloc _) (by omega) (by (repeat (first | (with_reducible exact Below.refl _ _) | (with_reducible assumption) | (with_reducible exact Hid.out (by with_reducible assumption)) | (with_reducible refine Below.alloc ?_ ?_ _) | (with_reducible refine Below.setCell ?_ ?_ _) | (with_reducible refine below_drewN ?_ _) | (with_reducible refine Below.drew ?_) | (with_reducible refine below_via (by with_reducible assumption) ?_ ?_) | (first | (with_reducible assumption) | omega | (simp only [World.size_alloc, World.size_setCell, World.size_drew, World.heap_drewN] <;> omega) | (simp <;> omega))))))

/-- a table and a number that are handed back -/
def TabRes (w : World) (gs ps : List Int) (x : Int) (e : Ending) (w' : World) : Prop :=
  ∃ v u, e = .returned (.tuple #[.agg #[v, u], .int .i64 x]) ∧ w'.ownsRow w.heap.size 3 1 v gs.length (gs.map (Value.int .i64)) ∧ w'.ownsRow w.heap.size 3 1 u ps.length (ps.map (Value.int .i64)) ∧
    (∀ k l, v.ownBlock = some k → u.ownBlock = some l → k ≠ l) ∧ Below w.heap.size w w'
theorem TabRes.of {w W : World} {B M : Nat} {v u : Value} {gs ps : List Int} {x : Int} (h : OwnTab B M W v u gs ps) (hB : w.heap.size ≤ B) (hb : Below w.heap.size w W) : TabRes w gs ps x (.returned (.tuple #[.agg #[v, u], .int .i64 x])) W :=
  ⟨v, u, rfl, owns_base h.g hB, owns_base h.p hB, h.ne, hb⟩
theorem TabRes.err {w W : World} {x : Int} (hb : Below w.heap.size w W) : TabRes w [] [] x (.returned (.tuple #[.agg #[.slice none 0 0, .slice none 0 0], .int .i64 x])) W :=
  ⟨_, _, rfl, World.ownsRow_nil _ _ _ _, World.ownsRow_nil _ _ _ _, fun k l h => by simp [Value.ownBlock] at h, hb⟩

/-- what Set and Drop answer -/
def setG (gs ps : List Int) (n g at_ : Int) : List Int := if may gs ps = true ∧ 0 ≤ at_ ∧ isH gs ps n g = true then gs else []
def setP (gs ps : List Int) (n g at_ : Int) : List Int := if may gs ps = true ∧ 0 ≤ at_ ∧ isH gs ps n g = true then ps.set n.toNat at_ else []
def setE (gs ps : List Int) (n g at_ : Int) : Int := if may gs ps = true then (if at_ < 0 then 2 else if isH gs ps n g = true then 0 else 140) else 8
def dropG (gs ps : List Int) (n g : Int) : List Int := if may gs ps = true ∧ isH gs ps n g = true then gs.set n.toNat (gs.getD n.toNat 0 + 1) else []
def dropP (gs ps : List Int) (n g : Int) : List Int := if may gs ps = true ∧ isH gs ps n g = true then ps.set n.toNat (-1) else []
def SetR (w : World) (gs ps : List Int) (n g at_ : Int) : Ending → World → Prop := TabRes w (setG gs ps n g at_) (setP gs ps n g at_) (setE gs ps n g at_)
def DropR (w : World) (gs ps : List Int) (n g : Int) : Ending → World → Prop := TabRes w (dropG gs ps n g) (dropP gs ps n g) (findE gs ps n g)
theorem setR_bad {w : World} {gs ps : List Int} {n g at_ : Int} (h : may gs ps = false) : SetR w gs ps n g at_ = TabRes w [] [] 8 := by simp [SetR, setG, setP, setE, h]
theorem setR_neg {w : World} {gs ps : List Int} {n g at_ : Int} (h : may gs ps = true) (h2 : at_ < 0) : SetR w gs ps n g at_ = TabRes w [] [] 2 := by
  have : ¬ 0 ≤ at_ := by omega
  simp [SetR, setG, setP, setE, h, h2, this]
theorem setR_not {w : World} {gs ps : List Int} {n g at_ : Int} (h : may gs ps = true) (h2 : 0 ≤ at_) (h3 : isH gs ps n g = false) : SetR w gs ps n g at_ = TabRes w [] [] 140 := by
  have : ¬ at_ < 0 := by omega
  simp [SetR, setG, setP, setE, h, h3, this]
theorem setR_ok {w : World} {gs ps : List Int} {n g at_ : Int} (h : may gs ps = true) (h2 : 0 ≤ at_) (h3 : isH gs ps n g = true) : SetR w gs ps n g at_ = TabRes w gs (ps.set n.toNat at_) 0 := by
  have : ¬ at_ < 0 := by omega
  simp [SetR, setG, setP, setE, h, h2, h3, this]
theorem dropR_bad {w : World} {gs ps : List Int} {n g : Int} (h : may gs ps = false) : DropR w gs ps n g = TabRes w [] [] 8 := by simp [DropR, dropG, dropP, findE, h]
theorem dropR_not {w : World} {gs ps : List Int} {n g : Int} (h : may gs ps = true) (h3 : isH gs ps n g = false) : DropR w gs ps n g = TabRes w [] [] 140 := by simp [DropR, dropG, dropP, findE, h, h3]
theorem dropR_ok {w : World} {gs ps : List Int} {n g : Int} (h : may gs ps = true) (h3 : isH gs ps n g = true) : DropR w gs ps n g = TabRes w (gs.set n.toNat (gs.getD n.toNat 0 + 1)) (ps.set n.toNat (-1)) 0 := by simp [DropR, dropG, dropP, findE, h, h3]
end Go.Proofs.Ytonmgmhkejbikaa
