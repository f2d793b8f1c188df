/- Merged: SlLayW, Chap20, Turn20. -/
import Derived.Test.YtbmibaafkgleeaaSlPut
import Derived.Test.YtbmibaafkgleeaaSlRef
import Derived.Deep.CutRange
namespace Go.Proofs.Ytbmibaafkgleeaa
set_option linter.unusedVariables false
set_option linter.unusedSimpArgs false
section
open Go.RowKit

theorem askedSl_core (w : World) (seg : Int) (wa ka va ca : Option Addr) (wc kc vc cc lw n lv lc : Nat) (laid : Int) (i : Nat) (hi : i < n)
    (CK : Hid (∀ W, Below w.heap.size w W → Calls Try.prog 33 #[.agg #[.int .i64 seg, .slice wa lw wc, .slice ka n kc, .slice va lv vc, .slice ca lc cc, .int .u64 laid]] W (AnsB W (.int .i64 0)))) :
    Calls Try.prog 57 #[.agg #[.int .i64 seg, .slice wa lw wc, .slice ka n kc, .slice va lv vc, .slice ca lc cc, .int .u64 laid], .int .i64 i] w (AnsB w (.int .i64 0)) := by
  go_enter Try.func57, Try.ntmps57
  go_wp2_with fail
  refine (CK.out _ (by (repeat (first | (with_reducible exact Below.refl _ _) | (with_reducible assumption) | (with_reducible exact Hid.out (by with_reducible assumption)) | (with_reducible refine Below.alloc ?_ ?_ _) | (with_reducible refine Below.setCell ?_ ?_ _) | (with_reducible refine below_drewN ?_ _) | (with_reducible refine Below.drew ?_) | (with_reducible refine below_via (by with_reducible assumption) ?_ ?_) | (first | (with_reducible assumption) | omega | (simp only [World.size_alloc, World.size_setCell, World.size_drew, World.heap_drewN] <;> omega) | (simp <;> omega)))))).mono ?_
  rintro e w1 ⟨rfl, hb1⟩
  have hz_w1 := hb1.size
  try simp only [World.size_alloc, World.size_setCell] at hz_w1
  have all_c : w1.cell? ⟨w.heap.size, 0, none⟩ = some (.int .i64 seg) ∧ w1.cell? ⟨w.heap.size, 1, none⟩ = some (.slice wa lw wc) ∧ w1.cell? ⟨w.heap.size, 2, none⟩ = some (.slice ka n kc) := by refine ⟨?_, ?_, ?_⟩ <;> (refine (hb1.cell ?_).trans ?_ <;> first | (first | (with_reducible assumption) | omega | (simp only [World.size_alloc, World.size_setCell, World.size_drew, World.heap_drewN] <;> omega) | (simp <;> omega)) | (first | (with_reducible assumption) | ((try simp (disch := first | omega | (simp only [World.size_alloc, World.size_setCell, World.size_drew, World.heap_drewN] <;> omega) | fail) only [World.cell?_alloc_past, World.cell?_alloc_at, World.frozen?_alloc_past, World.frozen?_alloc_at, World.frozen?_setCell, World.cell?_drew, World.frozen?_drew]) <;> first | (with_reducible assumption) | rfl)))
  have all_z : w.heap.size < w1.heap.size := by omega
  obtain ⟨c_t0, c_t1, c_t2⟩ := all_c
  try clear all_c
  have z_t := all_z
  try clear all_z
  have hB1 : Below w.heap.size w w1 := by (repeat (first | (with_reducible exact Below.refl _ _) | (with_reducible assumption) | (with_reducible exact Hid.out (by with_reducible assumption)) | (with_reducible refine Below.alloc ?_ ?_ _) | (with_reducible refine Below.setCell ?_ ?_ _) | (with_reducible refine below_drewN ?_ _) | (with_reducible refine Below.drew ?_) | (with_reducible refine below_via (by with_reducible assumption) ?_ ?_) | (first | (with_reducible assumption) | omega | (simp only [World.size_alloc, World.size_setCell, World.size_drew, World.heap_drewN] <;> omega) | (simp <;> omega))))
  go_wp2
  go_ret
  exact ⟨rfl, hB1⟩

set_option maxRecDepth 100000 in
set_option maxHeartbeats 1000000 in
theorem slLayW_core (w : World) (seg : Int) (wa ka va ca : Option Addr) (wc kc vc cc lw n lc : Nat) (laid : Int) (c : SlC) (i S : Nat) (key val : Int)
    (hseg : c.seg = seg) (hlaid : c.laid = laid) (hlw : c.ws.length = lw) (hlk : c.ks.length = n) (hlv : c.vs.length = n) (hlc : c.cs.length = lc) (h1 : 0 < lw) (h2 : 0 < n) (h3 : 0 < lc) (hn : n ≤ 65536) (hlw2 : lw ≤ 65536) (hlc2 : lc ≤ 65536) (hS : seg = S) (hS4 : 4 ≤ S) (hi : i < n) (hwn : n ≤ 64 * lw) (hcn : n = S * lc) (hok : okC c = true)
    (CK : Hid (∀ W, Below w.heap.size w W → Calls Try.prog 33 #[.agg #[.int .i64 seg, .slice wa lw wc, .slice ka n kc, .slice va n vc, .slice ca lc cc, .int .u64 laid]] W (AnsB W (.int .i64 0))))
    (TW : Hid (∀ W, Below w.heap.size w W → Calls Try.prog 95 #[.agg #[.int .i64 seg, .slice wa lw wc, .slice ka n kc, .slice va n vc, .slice ca lc cc, .int .u64 laid]] W (FreshSlN W c))) :
    Calls Try.prog 63 #[.agg #[.int .i64 seg, .slice wa lw wc, .slice ka n kc, .slice va n vc, .slice ca lc cc, .int .u64 laid], .int .i64 i, .agg #[.int .i64 key, .int .i64 val]] w (FreshSl2 w (lyC c i key val) (.int .i64 0)) := by
  have AK := Lib.hid (fun W (hb : Below w.heap.size w W) => askedSl_core W seg wa ka va ca wc kc vc cc lw n n lc laid i hi (Lib.hid fun W' hb' => CK.out W' (below_via hb' hb hb.size)))
  have HC := Lib.hid (And.intro hseg (And.intro hlaid (And.intro hlw (And.intro hlk (And.intro hlv hlc)))))
  have HSS := Lib.hid hS
  have HCN := Lib.hid hcn
  have HOK := Lib.hid hok
  clear hseg hlaid hlw hlk hlv hlc hS hcn CK hok
  go_enter Try.func63, Try.ntmps63
  go_wp2_with fail
  refine (AK.out _ (by (repeat (first | (with_reducible exact Below.refl _ _) | (with_reducible assumption) | (with_reducible exact Hid.out (by with_reducible assumption)) | (with_reducible refine Below.alloc ?_ ?_ _) | (with_reducible refine Below.setCell ?_ ?_ _) | (with_reducible refine below_drewN ?_ _) | (with_reducible refine Below.drew ?_) | (with_reducible refine below_via (by with_reducible assumption) ?_ ?_) | (first | (with_reducible assumption) | omega | (simp only [World.size_alloc, World.size_setCell, World.size_drew, World.heap_drewN] <;> omega) | (simp <;> omega)))))).mono ?_
  rintro e w1 ⟨rfl, hb1⟩
  have hz_w1 := hb1.size
  try simp only [World.size_alloc, World.size_setCell] at hz_w1
  have all_c : w1.cell? ⟨w.heap.size, 0, none⟩ = some (.int .i64 seg) ∧ w1.cell? ⟨w.heap.size, 1, none⟩ = some (.slice wa lw wc) ∧ w1.cell? ⟨w.heap.size, 2, none⟩ = some (.slice ka n kc) ∧ w1.cell? ⟨w.heap.size, 3, none⟩ = some (.slice va n vc) ∧ w1.cell? ⟨w.heap.size, 4, none⟩ = some (.slice ca lc cc) ∧ w1.cell? ⟨w.heap.size, 5, none⟩ = some (.int .u64 laid) ∧ w1.cell? ⟨w.heap.size + 1, 0, none⟩ = some (.int .i64 key) ∧ w1.cell? ⟨w.heap.size + 1, 1, none⟩ = some (.int .i64 val) ∧ w1.cell? ⟨w.heap.size + 1 + 1, 0, none⟩ = some (.int .i64 0) ∧ w1.cell? ⟨w.heap.size + 1 + 1, 1, none⟩ = some (.slice none 0 0) ∧ w1.cell? ⟨w.heap.size + 1 + 1, 2, none⟩ = some (.slice none 0 0) ∧ w1.cell? ⟨w.heap.size + 1 + 1, 3, none⟩ = some (.slice none 0 0) ∧ w1.cell? ⟨w.heap.size + 1 + 1, 4, none⟩ = some (.slice none 0 0) ∧ w1.cell? ⟨w.heap.size + 1 + 1, 5, none⟩ = some (.int .u64 0) := by refine ⟨?_, ?_, ?_, ?_, ?_, ?_, ?_, ?_, ?_, ?_, ?_, ?_, ?_, ?_⟩ <;> (refine (hb1.cell ?_).trans ?_ <;> first | (first | (with_reducible assumption) | omega | (simp only [World.size_alloc, World.size_setCell, World.size_drew, World.heap_drewN] <;> omega) | (simp <;> omega)) | (first | (with_reducible assumption) | ((try simp (disch := first | omega | (simp only [World.size_alloc, World.size_setCell, World.size_drew, World.heap_drewN] <;> omega) | fail) only [World.cell?_alloc_past, World.cell?_alloc_at, World.frozen?_alloc_past, World.frozen?_alloc_at, World.frozen?_setCell, World.cell?_drew, World.frozen?_drew]) <;> first | (with_reducible assumption) | rfl)))
  have all_f : w1.frozen? ⟨w.heap.size + 1 + 1, 0, none⟩ = false ∧ w1.frozen? ⟨w.heap.size + 1 + 1, 1, none⟩ = false ∧ w1.frozen? ⟨w.heap.size + 1 + 1, 2, none⟩ = false ∧ w1.frozen? ⟨w.heap.size + 1 + 1, 3, none⟩ = false ∧ w1.frozen? ⟨w.heap.size + 1 + 1, 4, none⟩ = false ∧ w1.frozen? ⟨w.heap.size + 1 + 1, 5, none⟩ = false := by refine ⟨?_, ?_, ?_, ?_, ?_, ?_⟩ <;> (refine (hb1.frozen ?_).trans ?_ <;> first | (first | (with_reducible assumption) | omega | (simp only [World.size_alloc, World.size_setCell, World.size_drew, World.heap_drewN] <;> omega) | (simp <;> omega)) | (first | (with_reducible assumption) | ((try simp (disch := first | omega | (simp only [World.size_alloc, World.size_setCell, World.size_drew, World.heap_drewN] <;> omega) | fail) only [World.cell?_alloc_past, World.cell?_alloc_at, World.frozen?_alloc_past, World.frozen?_alloc_at, World.frozen?_setCell, World.cell?_drew, World.frozen?_drew]) <;> first | (with_reducible assumption) | rfl)))
  have all_z : w.heap.size < w1.heap.size ∧ w.heap.size + 1 < w1.heap.size ∧ w.heap.size + 1 + 1 < w1.heap.size := by refine ⟨?_, ?_, ?_⟩ <;> (omega)
  obtain ⟨c_t0, c_t1, c_t2, c_t3, c_t4, c_t5, c_p0, c_p1, c_r0, c_r1, c_r2, c_r3, c_r4, c_r5⟩ := all_c
  try clear all_c
  obtain ⟨f_r0, f_r1, f_r2, f_r3, f_r4, f_r5⟩ := all_f
  try clear all_f
  obtain ⟨z_t, z_p, z_r⟩ := all_z
  try clear all_z
  have hB1 : Below w.heap.size w w1 := by (repeat (first | (with_reducible exact Below.refl _ _) | (with_reducible assumption) | (with_reducible exact Hid.out (by with_reducible assumption)) | (with_reducible refine Below.alloc ?_ ?_ _) | (with_reducible refine Below.setCell ?_ ?_ _) | (with_reducible refine below_drewN ?_ _) | (with_reducible refine Below.drew ?_) | (with_reducible refine below_via (by with_reducible assumption) ?_ ?_) | (first | (with_reducible assumption) | omega | (simp only [World.size_alloc, World.size_setCell, World.size_drew, World.heap_drewN] <;> omega) | (simp <;> omega))))
  have HB1 := Lib.hid hB1
  have hz1 : w.heap.size + 3 ≤ w1.heap.size := by omega
  clear hb1 hB1
  go_wp2_with fail
  refine (TW.out w1 HB1.out).mono ?_
  rintro e w2 ⟨v1, v2, v3, v4, rfl, o1, o2, o3, o4, hb2, hne⟩
  obtain ⟨eseg, elaid, elw, elk, elv, elc⟩ := HC.out
  rw [elw] at o1
  rw [elk] at o2
  rw [elv] at o3
  rw [elc] at o4
  rw [eseg, elaid]
  obtain ⟨g1, k1, rfl, hg1, hg1'⟩ := owns_at o1 h1
  obtain ⟨g2, k2, rfl, hg2, hg2'⟩ := owns_at o2 h2
  obtain ⟨g3, k3, rfl, hg3, hg3'⟩ := owns_at o3 h2
  obtain ⟨g4, k4, rfl, hg4, hg4'⟩ := owns_at o4 h3
  have n23 : g2 ≠ g3 := hne g2 g3 rfl rfl
  have apart : ∀ {e e' : TypeId} {g g' n n' k k' : Nat} {xs xs' : List Value}, w2.ownsRow w1.heap.size e 1 (.slice (some ⟨g, 0, none⟩) n k) n xs → w2.ownsRow w1.heap.size e' 1 (.slice (some ⟨g', 0, none⟩) n' k') n' xs' → e ≠ e' → g ≠ g' := by
    intro e e' g g' n n' k k' xs xs' ha hb hc
    rcases owns_apart ha hb hc with h | h
    · cases h
    · intro hgg; exact h (by subst hgg; rfl)
  have n12 := apart o1 o2 (by decide)
  have n13 := apart o1 o3 (by decide)
  have n14 := apart o1 o4 (by decide)
  have n24 := apart o2 o4 (by decide)
  have n34 := apart o3 o4 (by decide)
  clear apart hne
  have hz_w2 := hb2.size
  have HBW : Hid (Below w1.heap.size w1 w2) := Lib.hid hb2
  have HO := Lib.hid (And.intro o1 (And.intro o2 (And.intro o3 o4)))
  have hz_w2 := hb2.size
  try simp only [World.size_alloc, World.size_setCell] at hz_w2
  have all_c : w2.cell? ⟨w.heap.size, 0, none⟩ = some (.int .i64 seg) ∧ w2.cell? ⟨w.heap.size, 1, none⟩ = some (.slice wa lw wc) ∧ w2.cell? ⟨w.heap.size, 2, none⟩ = some (.slice ka n kc) ∧ w2.cell? ⟨w.heap.size, 3, none⟩ = some (.slice va n vc) ∧ w2.cell? ⟨w.heap.size, 4, none⟩ = some (.slice ca lc cc) ∧ w2.cell? ⟨w.heap.size, 5, none⟩ = some (.int .u64 laid) ∧ w2.cell? ⟨w.heap.size + 1, 0, none⟩ = some (.int .i64 key) ∧ w2.cell? ⟨w.heap.size + 1, 1, none⟩ = some (.int .i64 val) ∧ w2.cell? ⟨w.heap.size + 1 + 1, 0, none⟩ = some (.int .i64 0) ∧ w2.cell? ⟨w.heap.size + 1 + 1, 1, none⟩ = some (.slice none 0 0) ∧ w2.cell? ⟨w.heap.size + 1 + 1, 2, none⟩ = some (.slice none 0 0) ∧ w2.cell? ⟨w.heap.size + 1 + 1, 3, none⟩ = some (.slice none 0 0) ∧ w2.cell? ⟨w.heap.size + 1 + 1, 4, none⟩ = some (.slice none 0 0) ∧ w2.cell? ⟨w.heap.size + 1 + 1, 5, none⟩ = some (.int .u64 0) := by refine ⟨?_, ?_, ?_, ?_, ?_, ?_, ?_, ?_, ?_, ?_, ?_, ?_, ?_, ?_⟩ <;> (refine (hb2.cell ?_).trans ?_ <;> first | (first | (with_reducible assumption) | omega | (simp only [World.size_alloc, World.size_setCell, World.size_drew, World.heap_drewN] <;> omega) | (simp <;> omega)) | (first | (with_reducible assumption) | ((try simp (disch := first | omega | (simp only [World.size_alloc, World.size_setCell, World.size_drew, World.heap_drewN] <;> omega) | fail) only [World.cell?_alloc_past, World.cell?_alloc_at, World.frozen?_alloc_past, World.frozen?_alloc_at, World.frozen?_setCell, World.cell?_drew, World.frozen?_drew]) <;> first | (with_reducible assumption) | rfl)))
  have all_f : w2.frozen? ⟨w.heap.size + 1 + 1, 0, none⟩ = false ∧ w2.frozen? ⟨w.heap.size + 1 + 1, 1, none⟩ = false ∧ w2.frozen? ⟨w.heap.size + 1 + 1, 2, none⟩ = false ∧ w2.frozen? ⟨w.heap.size + 1 + 1, 3, none⟩ = false ∧ w2.frozen? ⟨w.heap.size + 1 + 1, 4, none⟩ = false ∧ w2.frozen? ⟨w.heap.size + 1 + 1, 5, none⟩ = false := by refine ⟨?_, ?_, ?_, ?_, ?_, ?_⟩ <;> (refine (hb2.frozen ?_).trans ?_ <;> first | (first | (with_reducible assumption) | omega | (simp only [World.size_alloc, World.size_setCell, World.size_drew, World.heap_drewN] <;> omega) | (simp <;> omega)) | (first | (with_reducible assumption) | ((try simp (disch := first | omega | (simp only [World.size_alloc, World.size_setCell, World.size_drew, World.heap_drewN] <;> omega) | fail) only [World.cell?_alloc_past, World.cell?_alloc_at, World.frozen?_alloc_past, World.frozen?_alloc_at, World.frozen?_setCell, World.cell?_drew, World.frozen?_drew]) <;> first | (with_reducible assumption) | rfl)))
  have all_z : w.heap.size < w2.heap.size ∧ w.heap.size + 1 < w2.heap.size ∧ w.heap.size + 1 + 1 < w2.heap.size := by refine ⟨?_, ?_, ?_⟩ <;> (omega)
  clear c_t0 c_t1 c_t2 c_t3 c_t4 c_t5 c_p0 c_p1 c_r0 c_r1 c_r2 c_r3 c_r4 c_r5 f_r0 f_r1 f_r2 f_r3 f_r4 f_r5 z_t z_p z_r
  obtain ⟨c_t0, c_t1, c_t2, c_t3, c_t4, c_t5, c_p0, c_p1, c_r0, c_r1, c_r2, c_r3, c_r4, c_r5⟩ := all_c
  try clear all_c
  obtain ⟨f_r0, f_r1, f_r2, f_r3, f_r4, f_r5⟩ := all_f
  try clear all_f
  obtain ⟨z_t, z_p, z_r⟩ := all_z
  try clear all_z
  clear o1 o2 o3 o4 hb2
  go_wp2_with fail
  have hb3 : Below w2.heap.size w2 (w2.alloc (.cells #[.int .i64 seg, .slice (some ⟨g1, 0, none⟩) lw k1, .slice (some ⟨g2, 0, none⟩) n k2, .slice (some ⟨g3, 0, none⟩) n k3, .slice (some ⟨g4, 0, none⟩) lc k4, .int .u64 laid] 135)) := (Below.refl _ _).alloc (Nat.le_refl _) _
  have hA : ArrC w1.heap.size (w2.alloc (.cells #[.int .i64 seg, .slice (some ⟨g1, 0, none⟩) lw k1, .slice (some ⟨g2, 0, none⟩) n k2, .slice (some ⟨g3, 0, none⟩) n k3, .slice (some ⟨g4, 0, none⟩) lc k4, .int .u64 laid] 135)) w2.heap.size g1 g2 g3 g4 k1 k2 k3 k4 lw n lc c := by
    unfold ArrC
    rw [eseg, elaid]
    exact ⟨by ((try simp (disch := first | omega | (simp only [World.size_alloc] <;> omega) | fail) only [World.cell?_alloc_past, World.cell?_alloc_at, World.frozen?_alloc_past, World.frozen?_alloc_at]) <;> rfl), by ((try simp (disch := first | omega | (simp only [World.size_alloc] <;> omega) | fail) only [World.cell?_alloc_past, World.cell?_alloc_at, World.frozen?_alloc_past, World.frozen?_alloc_at]) <;> rfl), by ((try simp (disch := first | omega | (simp only [World.size_alloc] <;> omega) | fail) only [World.cell?_alloc_past, World.cell?_alloc_at, World.frozen?_alloc_past, World.frozen?_alloc_at]) <;> rfl), by ((try simp (disch := first | omega | (simp only [World.size_alloc] <;> omega) | fail) only [World.cell?_alloc_past, World.cell?_alloc_at, World.frozen?_alloc_past, World.frozen?_alloc_at]) <;> rfl), by ((try simp (disch := first | omega | (simp only [World.size_alloc] <;> omega) | fail) only [World.cell?_alloc_past, World.cell?_alloc_at, World.frozen?_alloc_past, World.frozen?_alloc_at]) <;> rfl), by ((try simp (disch := first | omega | (simp only [World.size_alloc] <;> omega) | fail) only [World.cell?_alloc_past, World.cell?_alloc_at, World.frozen?_alloc_past, World.frozen?_alloc_at]) <;> rfl), by ((try simp (disch := first | omega | (simp only [World.size_alloc] <;> omega) | fail) only [World.cell?_alloc_past, World.cell?_alloc_at, World.frozen?_alloc_past, World.frozen?_alloc_at]) <;> rfl), owns_below HO.out.1 hb3, owns_below HO.out.2.1 hb3, owns_below HO.out.2.2.1 hb3, owns_below HO.out.2.2.2 hb3⟩
  have HA := Lib.hid hA
  have hzz : (w2.alloc (.cells #[.int .i64 seg, .slice (some ⟨g1, 0, none⟩) lw k1, .slice (some ⟨g2, 0, none⟩) n k2, .slice (some ⟨g3, 0, none⟩) n k3, .slice (some ⟨g4, 0, none⟩) lc k4, .int .u64 laid] 135)).heap.size = w2.heap.size + 1 := by simp
  have HB3 : Hid (Below w1.heap.size w1 (w2.alloc (.cells #[.int .i64 seg, .slice (some ⟨g1, 0, none⟩) lw k1, .slice (some ⟨g2, 0, none⟩) n k2, .slice (some ⟨g3, 0, none⟩) n k3, .slice (some ⟨g4, 0, none⟩) lc k4, .int .u64 laid] 135))) := Lib.hid (HBW.out.trans (hb3.mono HBW.out.size))
  generalize w2.alloc (.cells #[.int .i64 seg, .slice (some ⟨g1, 0, none⟩) lw k1, .slice (some ⟨g2, 0, none⟩) n k2, .slice (some ⟨g3, 0, none⟩) n k3, .slice (some ⟨g4, 0, none⟩) lc k4, .int .u64 laid] 135) = w3 at *
  have hz_w3 := hb3.size
  try simp only [World.size_alloc, World.size_setCell] at hz_w3
  have all_c : w3.cell? ⟨w.heap.size, 0, none⟩ = some (.int .i64 seg) ∧ w3.cell? ⟨w.heap.size, 1, none⟩ = some (.slice wa lw wc) ∧ w3.cell? ⟨w.heap.size, 2, none⟩ = some (.slice ka n kc) ∧ w3.cell? ⟨w.heap.size, 3, none⟩ = some (.slice va n vc) ∧ w3.cell? ⟨w.heap.size, 4, none⟩ = some (.slice ca lc cc) ∧ w3.cell? ⟨w.heap.size, 5, none⟩ = some (.int .u64 laid) ∧ w3.cell? ⟨w.heap.size + 1, 0, none⟩ = some (.int .i64 key) ∧ w3.cell? ⟨w.heap.size + 1, 1, none⟩ = some (.int .i64 val) ∧ w3.cell? ⟨w.heap.size + 1 + 1, 0, none⟩ = some (.int .i64 0) ∧ w3.cell? ⟨w.heap.size + 1 + 1, 1, none⟩ = some (.slice none 0 0) ∧ w3.cell? ⟨w.heap.size + 1 + 1, 2, none⟩ = some (.slice none 0 0) ∧ w3.cell? ⟨w.heap.size + 1 + 1, 3, none⟩ = some (.slice none 0 0) ∧ w3.cell? ⟨w.heap.size + 1 + 1, 4, none⟩ = some (.slice none 0 0) ∧ w3.cell? ⟨w.heap.size + 1 + 1, 5, none⟩ = some (.int .u64 0) := by refine ⟨?_, ?_, ?_, ?_, ?_, ?_, ?_, ?_, ?_, ?_, ?_, ?_, ?_, ?_⟩ <;> (refine (hb3.cell ?_).trans ?_ <;> first | (first | (with_reducible assumption) | omega | (simp only [World.size_alloc, World.size_setCell, World.size_drew, World.heap_drewN] <;> omega) | (simp <;> omega)) | (first | (with_reducible assumption) | ((try simp (disch := first | omega | (simp only [World.size_alloc, World.size_setCell, World.size_drew, World.heap_drewN] <;> omega) | fail) only [World.cell?_alloc_past, World.cell?_alloc_at, World.frozen?_alloc_past, World.frozen?_alloc_at, World.frozen?_setCell, World.cell?_drew, World.frozen?_drew]) <;> first | (with_reducible assumption) | rfl)))
  have all_f : w3.frozen? ⟨w.heap.size + 1 + 1, 0, none⟩ = false ∧ w3.frozen? ⟨w.heap.size + 1 + 1, 1, none⟩ = false ∧ w3.frozen? ⟨w.heap.size + 1 + 1, 2, none⟩ = false ∧ w3.frozen? ⟨w.heap.size + 1 + 1, 3, none⟩ = false ∧ w3.frozen? ⟨w.heap.size + 1 + 1, 4, none⟩ = false ∧ w3.frozen? ⟨w.heap.size + 1 + 1, 5, none⟩ = false := by refine ⟨?_, ?_, ?_, ?_, ?_, ?_⟩ <;> (refine (hb3.frozen ?_).trans ?_ <;> first | (first | (with_reducible assumption) | omega | (simp only [World.size_alloc, World.size_setCell, World.size_drew, World.heap_drewN] <;> omega) | (simp <;> omega)) | (first | (with_reducible assumption) | ((try simp (disch := first | omega | (simp only [World.size_alloc, World.size_setCell, World.size_drew, World.heap_drewN] <;> omega) | fail) only [World.cell?_alloc_past, World.cell?_alloc_at, World.frozen?_alloc_past, World.frozen?_alloc_at, World.frozen?_setCell, World.cell?_drew, World.frozen?_drew]) <;> first | (with_reducible assumption) | rfl)))
  have all_z : w.heap.size < w3.heap.size ∧ w.heap.size + 1 < w3.heap.size ∧ w.heap.size + 1 + 1 < w3.heap.size := by refine ⟨?_, ?_, ?_⟩ <;> (omega)
  clear c_t0 c_t1 c_t2 c_t3 c_t4 c_t5 c_p0 c_p1 c_r0 c_r1 c_r2 c_r3 c_r4 c_r5 f_r0 f_r1 f_r2 f_r3 f_r4 f_r5 z_t z_p z_r
  obtain ⟨c_t0, c_t1, c_t2, c_t3, c_t4, c_t5, c_p0, c_p1, c_r0, c_r1, c_r2, c_r3, c_r4, c_r5⟩ := all_c
  try clear all_c
  obtain ⟨f_r0, f_r1, f_r2, f_r3, f_r4, f_r5⟩ := all_f
  try clear all_f
  obtain ⟨z_t, z_p, z_r⟩ := all_z
  try clear all_z
  have HNE : Hid (ArrNe w2.heap.size g1 g2 g3 g4) := Lib.hid ⟨by omega, by omega, by omega, by omega, n12, n13, n14, n23, n24, n34⟩
  have hbb : w1.heap.size ≤ w2.heap.size := HBW.out.size
  have hS' : c.seg = (S : Int) := by rw [eseg]; exact HSS.out
  have LY := Lib.hid (lay_ok w3 w1.heap.size w2.heap.size g1 g2 g3 g4 k1 k2 k3 k4 lw n lc i S c key val HA.out HNE.out HOK.out hi hn (by omega) hlw2 hS' hS4 (by have := HCN.out; exact Nat.div_lt_of_lt_mul (by omega)) hlc2)
  clear hA hb3 HO n12 n13 n14 n23 n24 n34 eseg elaid elw elk elv elc HBW hS'
  have hBw3 : Below w.heap.size w w3 := below_via HB3.out HB1.out (by omega)
  refine LY.out.mono ?_
  rintro e w5 ⟨rfl, hA5, hk5⟩
  have hB5 := kept5_below HB3.out hk5 (by omega) (by omega) hg1 hg2 hg3 hg4
  have hz5 := hk5.size
  have hAe := hA5
  unfold ArrC at hAe
  obtain ⟨e0, e1, e2, e3, e4, e5, -, p1, p2, p3, p4⟩ := hAe
  have l1 := own_len p1
  have l2 := own_len p2
  have l3 := own_len p3
  have l4 := own_len p4
  generalize lyC c i key val = d at *
  have hk6 : Below w1.heap.size w3 w5 := kept5_below (Below.refl _ w3) hk5 (by omega) (by omega) hg1 hg2 hg3 hg4
  have hBw5 : Below w.heap.size w w5 := below_via hB5 HB1.out (by omega)
  have hz_w5 := hk6.size
  try simp only [World.size_alloc, World.size_setCell] at hz_w5
  have all_c : w5.cell? ⟨w.heap.size, 0, none⟩ = some (.int .i64 seg) ∧ w5.cell? ⟨w.heap.size, 1, none⟩ = some (.slice wa lw wc) ∧ w5.cell? ⟨w.heap.size, 2, none⟩ = some (.slice ka n kc) ∧ w5.cell? ⟨w.heap.size, 3, none⟩ = some (.slice va n vc) ∧ w5.cell? ⟨w.heap.size, 4, none⟩ = some (.slice ca lc cc) ∧ w5.cell? ⟨w.heap.size, 5, none⟩ = some (.int .u64 laid) ∧ w5.cell? ⟨w.heap.size + 1, 0, none⟩ = some (.int .i64 key) ∧ w5.cell? ⟨w.heap.size + 1, 1, none⟩ = some (.int .i64 val) ∧ w5.cell? ⟨w.heap.size + 1 + 1, 0, none⟩ = some (.int .i64 0) ∧ w5.cell? ⟨w.heap.size + 1 + 1, 1, none⟩ = some (.slice none 0 0) ∧ w5.cell? ⟨w.heap.size + 1 + 1, 2, none⟩ = some (.slice none 0 0) ∧ w5.cell? ⟨w.heap.size + 1 + 1, 3, none⟩ = some (.slice none 0 0) ∧ w5.cell? ⟨w.heap.size + 1 + 1, 4, none⟩ = some (.slice none 0 0) ∧ w5.cell? ⟨w.heap.size + 1 + 1, 5, none⟩ = some (.int .u64 0) := by refine ⟨?_, ?_, ?_, ?_, ?_, ?_, ?_, ?_, ?_, ?_, ?_, ?_, ?_, ?_⟩ <;> (refine (hk6.cell ?_).trans ?_ <;> first | (first | (with_reducible assumption) | omega | (simp only [World.size_alloc, World.size_setCell, World.size_drew, World.heap_drewN] <;> omega) | (simp <;> omega)) | (first | (with_reducible assumption) | ((try simp (disch := first | omega | (simp only [World.size_alloc, World.size_setCell, World.size_drew, World.heap_drewN] <;> omega) | fail) only [World.cell?_alloc_past, World.cell?_alloc_at, World.frozen?_alloc_past, World.frozen?_alloc_at, World.frozen?_setCell, World.cell?_drew, World.frozen?_drew]) <;> first | (with_reducible assumption) | rfl)))
  have all_f : w5.frozen? ⟨w.heap.size + 1 + 1, 0, none⟩ = false ∧ w5.frozen? ⟨w.heap.size + 1 + 1, 1, none⟩ = false ∧ w5.frozen? ⟨w.heap.size + 1 + 1, 2, none⟩ = false ∧ w5.frozen? ⟨w.heap.size + 1 + 1, 3, none⟩ = false ∧ w5.frozen? ⟨w.heap.size + 1 + 1, 4, none⟩ = false ∧ w5.frozen? ⟨w.heap.size + 1 + 1, 5, none⟩ = false := by refine ⟨?_, ?_, ?_, ?_, ?_, ?_⟩ <;> (refine (hk6.frozen ?_).trans ?_ <;> first | (first | (with_reducible assumption) | omega | (simp only [World.size_alloc, World.size_setCell, World.size_drew, World.heap_drewN] <;> omega) | (simp <;> omega)) | (first | (with_reducible assumption) | ((try simp (disch := first | omega | (simp only [World.size_alloc, World.size_setCell, World.size_drew, World.heap_drewN] <;> omega) | fail) only [World.cell?_alloc_past, World.cell?_alloc_at, World.frozen?_alloc_past, World.frozen?_alloc_at, World.frozen?_setCell, World.cell?_drew, World.frozen?_drew]) <;> first | (with_reducible assumption) | rfl)))
  have all_z : w.heap.size < w5.heap.size ∧ w.heap.size + 1 < w5.heap.size ∧ w.heap.size + 1 + 1 < w5.heap.size := by refine ⟨?_, ?_, ?_⟩ <;> (omega)
  clear c_t0 c_t1 c_t2 c_t3 c_t4 c_t5 c_p0 c_p1 c_r0 c_r1 c_r2 c_r3 c_r4 c_r5 f_r0 f_r1 f_r2 f_r3 f_r4 f_r5 z_t z_p z_r
  obtain ⟨c_t0, c_t1, c_t2, c_t3, c_t4, c_t5, c_p0, c_p1, c_r0, c_r1, c_r2, c_r3, c_r4, c_r5⟩ := all_c
  try clear all_c
  obtain ⟨f_r0, f_r1, f_r2, f_r3, f_r4, f_r5⟩ := all_f
  try clear all_f
  obtain ⟨z_t, z_p, z_r⟩ := all_z
  try clear all_z
  have HP1 := Lib.hid p1
  have HP2 := Lib.hid p2
  have HP3 := Lib.hid p3
  have HP4 := Lib.hid p4
  clear p1 p2 p3 p4 hA5 hk5
  go_wp2
  have HQ : Hid (∀ q, q ≠ w.heap.size + 1 + 1 → ((((((w5.setCell ⟨w.heap.size + 1 + 1, 0, none⟩ (.int .i64 d.seg)).setCell ⟨w.heap.size + 1 + 1, 1, none⟩ (.slice (some ⟨g1, 0, none⟩) lw k1)).setCell ⟨w.heap.size + 1 + 1, 2, none⟩ (.slice (some ⟨g2, 0, none⟩) n k2)).setCell ⟨w.heap.size + 1 + 1, 3, none⟩ (.slice (some ⟨g3, 0, none⟩) n k3)).setCell ⟨w.heap.size + 1 + 1, 4, none⟩ (.slice (some ⟨g4, 0, none⟩) lc k4)).setCell ⟨w.heap.size + 1 + 1, 5, none⟩ (.int .u64 d.laid)).heap[q]? = w5.heap[q]?) := Lib.hid fun q hq => by
    rw [heap_setCell_ne _ _ _ hq, heap_setCell_ne _ _ _ hq, heap_setCell_ne _ _ _ hq, heap_setCell_ne _ _ _ hq, heap_setCell_ne _ _ _ hq, heap_setCell_ne _ _ _ hq]
  refine bodyPost_ret (results_ct rfl rfl (run_loadVar_many _ Try.underlying29 rfl (by kernel_rfl) (six_set c_r0 c_r1 c_r2 c_r3 c_r4 c_r5))) rfl ⟨_, _, _, _, rfl, ?_, ?_, ?_, ?_, ?_⟩
  · rw [l1]; exact owns_base (owns_heap HP1.out fun j hj => HQ.out j (by have := (HP1.out.lt j hj).1; omega)) (by omega)
  · rw [l2]; exact owns_base (owns_heap HP2.out fun j hj => HQ.out j (by have := (HP2.out.lt j hj).1; omega)) (by omega)
  · rw [l3]; exact owns_base (owns_heap HP3.out fun j hj => HQ.out j (by have := (HP3.out.lt j hj).1; omega)) (by omega)
  · rw [l4]; exact owns_base (owns_heap HP4.out fun j hj => HQ.out j (by have := (HP4.out.lt j hj).1; omega)) (by omega)
  · exact (((((hBw5.setCell (by dsimp only; omega) _).setCell (by dsimp only; omega) _).setCell (by dsimp only; omega) _).setCell (by dsimp only; omega) _).setCell (by dsimp only; omega) _).setCell (by dsimp only; omega) _
end

section
open Go.RowKit

set_option maxRecDepth 100000 in
set_option maxHeartbeats 1000000 in
theorem chapter_ok (w : World) : Calls Try.prog 29 #[] w (FreshSl w chC) := by
  have NW := Lib.hid (fun W => slNew_core W 4 16 1 4 (by decide) (by decide) (by decide) (by decide) (by decide) (by decide) (by decide) (Lib.hid fun W' => fits_ok 4 16 W'))
  go_enter Try.func29, Try.ntmps29
  go_wp2_with fail
  refine (NW.out _).mono ?_
  rintro e w1 ⟨v1, v2, v3, v4, rfl, o1, o2, o3, o4, hb1⟩
  obtain ⟨a1, c1, rfl, i1, -, -, -, -⟩ := row_of_owns o1
  obtain ⟨a2, c2, rfl, i2, -, -, -, -⟩ := row_of_owns o2
  obtain ⟨a3, c3, rfl, i3, -, -, -, -⟩ := row_of_owns o3
  obtain ⟨a4, c4, rfl, i4, -, -, -, -⟩ := row_of_owns o4
  have hz_w1 := hb1.size
  try simp only [World.size_alloc, World.size_setCell] at hz_w1
  have all_c : w1.cell? ⟨w.heap.size, 0, none⟩ = some (.int .i64 0) ∧ w1.cell? ⟨w.heap.size, 1, none⟩ = some (.slice none 0 0) ∧ w1.cell? ⟨w.heap.size, 2, none⟩ = some (.slice none 0 0) ∧ w1.cell? ⟨w.heap.size, 3, none⟩ = some (.slice none 0 0) ∧ w1.cell? ⟨w.heap.size, 4, none⟩ = some (.slice none 0 0) ∧ w1.cell? ⟨w.heap.size, 5, none⟩ = some (.int .u64 0) := by refine ⟨?_, ?_, ?_, ?_, ?_, ?_⟩ <;> (refine (hb1.cell ?_).trans ?_ <;> first | (first | (with_reducible assumption) | omega | (simp only [World.size_alloc, World.size_setCell, World.size_drew, World.heap_drewN] <;> omega) | (simp <;> omega)) | (first | (with_reducible assumption) | ((try simp (disch := first | omega | (simp only [World.size_alloc, World.size_setCell, World.size_drew, World.heap_drewN] <;> omega) | fail) only [World.cell?_alloc_past, World.cell?_alloc_at, World.frozen?_alloc_past, World.frozen?_alloc_at, World.frozen?_setCell, World.cell?_drew, World.frozen?_drew]) <;> first | (with_reducible assumption) | rfl)))
  have all_f : w1.frozen? ⟨w.heap.size, 0, none⟩ = false ∧ w1.frozen? ⟨w.heap.size, 1, none⟩ = false ∧ w1.frozen? ⟨w.heap.size, 2, none⟩ = false ∧ w1.frozen? ⟨w.heap.size, 3, none⟩ = false ∧ w1.frozen? ⟨w.heap.size, 4, none⟩ = false ∧ w1.frozen? ⟨w.heap.size, 5, none⟩ = false := by refine ⟨?_, ?_, ?_, ?_, ?_, ?_⟩ <;> (refine (hb1.frozen ?_).trans ?_ <;> first | (first | (with_reducible assumption) | omega | (simp only [World.size_alloc, World.size_setCell, World.size_drew, World.heap_drewN] <;> omega) | (simp <;> omega)) | (first | (with_reducible assumption) | ((try simp (disch := first | omega | (simp only [World.size_alloc, World.size_setCell, World.size_drew, World.heap_drewN] <;> omega) | fail) only [World.cell?_alloc_past, World.cell?_alloc_at, World.frozen?_alloc_past, World.frozen?_alloc_at, World.frozen?_setCell, World.cell?_drew, World.frozen?_drew]) <;> first | (with_reducible assumption) | rfl)))
  have all_z : w.heap.size < w1.heap.size := by omega
  obtain ⟨c_r0, c_r1, c_r2, c_r3, c_r4, c_r5⟩ := all_c
  try clear all_c
  obtain ⟨f_r0, f_r1, f_r2, f_r3, f_r4, f_r5⟩ := all_f
  try clear all_f
  have z_r := all_z
  try clear all_z
  clear o1 o2 o3 o4
  go_wp2_with fail
  have hB1 : Below w.heap.size w w1 := by (repeat (first | (with_reducible exact Below.refl _ _) | (with_reducible assumption) | (with_reducible exact Hid.out (by with_reducible assumption)) | (with_reducible refine Below.alloc ?_ ?_ _) | (with_reducible refine Below.setCell ?_ ?_ _) | (with_reducible refine below_drewN ?_ _) | (with_reducible refine Below.drew ?_) | (with_reducible refine below_via (by with_reducible assumption) ?_ ?_) | (first | (with_reducible assumption) | omega | (simp only [World.size_alloc, World.size_setCell, World.size_drew, World.heap_drewN] <;> omega) | (simp <;> omega))))
  have ha := alloc_new w1 (.cells #[.int .i64 (zeroSl 4 16 1 4).seg, .slice a1 (zeroSl 4 16 1 4).ws.length c1, .slice a2 (zeroSl 4 16 1 4).ks.length c2, .slice a3 (zeroSl 4 16 1 4).vs.length c3, .slice a4 (zeroSl 4 16 1 4).cs.length c4, .int .u64 (zeroSl 4 16 1 4).laid] 29)
  have hba : Below w1.heap.size w1 (w1.alloc (.cells #[.int .i64 (zeroSl 4 16 1 4).seg, .slice a1 (zeroSl 4 16 1 4).ws.length c1, .slice a2 (zeroSl 4 16 1 4).ks.length c2, .slice a3 (zeroSl 4 16 1 4).vs.length c3, .slice a4 (zeroSl 4 16 1 4).cs.length c4, .int .u64 (zeroSl 4 16 1 4).laid] 29)) := (Below.refl _ _).alloc (Nat.le_refl _) _
  have hsa : (w1.alloc (.cells #[.int .i64 (zeroSl 4 16 1 4).seg, .slice a1 (zeroSl 4 16 1 4).ws.length c1, .slice a2 (zeroSl 4 16 1 4).ks.length c2, .slice a3 (zeroSl 4 16 1 4).vs.length c3, .slice a4 (zeroSl 4 16 1 4).cs.length c4, .int .u64 (zeroSl 4 16 1 4).laid] 29)).heap.size = w1.heap.size + 1 := by simp
  generalize w1.alloc (.cells #[.int .i64 (zeroSl 4 16 1 4).seg, .slice a1 (zeroSl 4 16 1 4).ws.length c1, .slice a2 (zeroSl 4 16 1 4).ks.length c2, .slice a3 (zeroSl 4 16 1 4).vs.length c3, .slice a4 (zeroSl 4 16 1 4).cs.length c4, .int .u64 (zeroSl 4 16 1 4).laid] 29) = wa at *
  have hb := alloc_new wa (.cells #[.int .i64 1, .int .i64 0, .int .i64 5, .int .i64 0, .int .i64 7, .int .i64 0, .int .i64 9, .int .i64 0, .int .i64 12, .int .i64 0] 55)
  have hbb : Below wa.heap.size wa (wa.alloc (.cells #[.int .i64 1, .int .i64 0, .int .i64 5, .int .i64 0, .int .i64 7, .int .i64 0, .int .i64 9, .int .i64 0, .int .i64 12, .int .i64 0] 55)) := (Below.refl _ _).alloc (Nat.le_refl _) _
  have hsb : (wa.alloc (.cells #[.int .i64 1, .int .i64 0, .int .i64 5, .int .i64 0, .int .i64 7, .int .i64 0, .int .i64 9, .int .i64 0, .int .i64 12, .int .i64 0] 55)).heap.size = wa.heap.size + 1 := by simp
  generalize wa.alloc (.cells #[.int .i64 1, .int .i64 0, .int .i64 5, .int .i64 0, .int .i64 7, .int .i64 0, .int .i64 9, .int .i64 0, .int .i64 12, .int .i64 0] 55) = wb at *
  have hc := alloc_new wb (.cells #[.int .i64 0, .int .i64 3, .int .i64 9, .int .i64 12, .int .i64 13] 3)
  have hbc : Below wb.heap.size wb (wb.alloc (.cells #[.int .i64 0, .int .i64 3, .int .i64 9, .int .i64 12, .int .i64 13] 3)) := (Below.refl _ _).alloc (Nat.le_refl _) _
  have hsc : (wb.alloc (.cells #[.int .i64 0, .int .i64 3, .int .i64 9, .int .i64 12, .int .i64 13] 3)).heap.size = wb.heap.size + 1 := by simp
  generalize wb.alloc (.cells #[.int .i64 0, .int .i64 3, .int .i64 9, .int .i64 12, .int .i64 13] 3) = w3 at *
  have ha3 := (hbc.block _ (by omega)).trans ((hbb.block w1.heap.size (by omega)).trans ha)
  have hb3 := (hbc.block _ (by omega)).trans hb
  rw [hsa] at hb3
  rw [hsb, hsa] at hc
  have hps : IsRow .i64 w3 (some ⟨w1.heap.size + 1 + 1, 0, none⟩) (ints chPs) := row_cells hc rfl
  have hpr : IsRow .i64 w3 (some ⟨w1.heap.size + 1, 0, none⟩) (prI chL) := row_cells hb3 rfl
  have h31 : Below w1.heap.size w1 w3 := hba.trans ((hbb.mono (by omega)).trans (hbc.mono (by omega)))
  have hin : SlIn w3 chZ ⟨a1, a2, a3, a4, c1, c2, c3, c4⟩ := chZ_in (i1.below h31) (i2.below h31) (i3.below h31) (i4.below h31)
  have PT := Lib.hid (fun W (hb : Below w3.heap.size w3 W) => part_ok chZ ⟨a1, a2, a3, a4, c1, c2, c3, c4⟩ (by decide) (by decide) 0 16 W (hin.below hb))
  rw [chZ_part] at PT
  have TW := Lib.hid (fun W (hb : Below w3.heap.size w3 W) => slTwin_ok chZ ⟨a1, a2, a3, a4, c1, c2, c3, c4⟩ W (hin.below hb) (by decide) (by decide) (by decide) (by decide))
  have FL := slFill_core w3 4 a1 a2 a3 a4 c1 c2 c3 c4 1 16 4 0 chZ 0 16 5 4 chPs chL _ _ 5 5 rfl rfl rfl rfl rfl rfl (by decide) (by decide) (by decide) (by decide) (by decide) (by decide) rfl (by decide) (by decide) (by decide) (by decide) (by decide) rfl rfl (by decide) (by decide) chZ_okt chC_okl (Lib.hid hps) (Lib.hid hpr) PT TW
  have hBw3 : Below w.heap.size w w3 := below_via h31 hB1 (by omega)
  obtain ⟨u0, u1, u2, u3, u4, u5, t0, t1, t2, t3, t4, t5, tf⟩ := box_six ha3 rfl
  have hz_w3 := h31.size
  try simp only [World.size_alloc, World.size_setCell] at hz_w3
  have all_c : w3.cell? ⟨w.heap.size, 0, none⟩ = some (.int .i64 0) ∧ w3.cell? ⟨w.heap.size, 1, none⟩ = some (.slice none 0 0) ∧ w3.cell? ⟨w.heap.size, 2, none⟩ = some (.slice none 0 0) ∧ w3.cell? ⟨w.heap.size, 3, none⟩ = some (.slice none 0 0) ∧ w3.cell? ⟨w.heap.size, 4, none⟩ = some (.slice none 0 0) ∧ w3.cell? ⟨w.heap.size, 5, none⟩ = some (.int .u64 0) := by refine ⟨?_, ?_, ?_, ?_, ?_, ?_⟩ <;> (refine (h31.cell ?_).trans ?_ <;> first | (first | (with_reducible assumption) | omega | (simp only [World.size_alloc, World.size_setCell, World.size_drew, World.heap_drewN] <;> omega) | (simp <;> omega)) | (first | (with_reducible assumption) | ((try simp (disch := first | omega | (simp only [World.size_alloc, World.size_setCell, World.size_drew, World.heap_drewN] <;> omega) | fail) only [World.cell?_alloc_past, World.cell?_alloc_at, World.frozen?_alloc_past, World.frozen?_alloc_at, World.frozen?_setCell, World.cell?_drew, World.frozen?_drew]) <;> first | (with_reducible assumption) | rfl)))
  have all_f : w3.frozen? ⟨w.heap.size, 0, none⟩ = false ∧ w3.frozen? ⟨w.heap.size, 1, none⟩ = false ∧ w3.frozen? ⟨w.heap.size, 2, none⟩ = false ∧ w3.frozen? ⟨w.heap.size, 3, none⟩ = false ∧ w3.frozen? ⟨w.heap.size, 4, none⟩ = false ∧ w3.frozen? ⟨w.heap.size, 5, none⟩ = false := by refine ⟨?_, ?_, ?_, ?_, ?_, ?_⟩ <;> (refine (h31.frozen ?_).trans ?_ <;> first | (first | (with_reducible assumption) | omega | (simp only [World.size_alloc, World.size_setCell, World.size_drew, World.heap_drewN] <;> omega) | (simp <;> omega)) | (first | (with_reducible assumption) | ((try simp (disch := first | omega | (simp only [World.size_alloc, World.size_setCell, World.size_drew, World.heap_drewN] <;> omega) | fail) only [World.cell?_alloc_past, World.cell?_alloc_at, World.frozen?_alloc_past, World.frozen?_alloc_at, World.frozen?_setCell, World.cell?_drew, World.frozen?_drew]) <;> first | (with_reducible assumption) | rfl)))
  have all_z : w.heap.size < w3.heap.size := by omega
  clear c_r0 c_r1 c_r2 c_r3 c_r4 c_r5 f_r0 f_r1 f_r2 f_r3 f_r4 f_r5 z_r
  obtain ⟨c_r0, c_r1, c_r2, c_r3, c_r4, c_r5⟩ := all_c
  try clear all_c
  obtain ⟨f_r0, f_r1, f_r2, f_r3, f_r4, f_r5⟩ := all_f
  try clear all_f
  have z_r := all_z
  try clear all_z
  change Calls _ _ _ _ (FreshSl2 w3 chC _) at FL
  have tf0 := tf 0
  have tf1 := tf 1
  have tf2 := tf 2
  have tf3 := tf 3
  have tf4 := tf 4
  have tf5 := tf 5
  refine FL.mono ?_
  rintro e w4 ⟨v1, v2, v3, v4, rfl, p1, p2, p3, p4, hb4⟩
  obtain ⟨b1, d1, rfl, -⟩ := owns_news p1
  obtain ⟨b2, d2, rfl, -⟩ := owns_news p2
  obtain ⟨b3, d3, rfl, -⟩ := owns_news p3
  obtain ⟨b4, d4, rfl, -⟩ := owns_news p4
  have hz4 := hb4.size
  replace t0 := (hb4.cell (p := ⟨w1.heap.size, 0, none⟩) (by dsimp only; omega)).trans t0
  replace t1 := (hb4.cell (p := ⟨w1.heap.size, 1, none⟩) (by dsimp only; omega)).trans t1
  replace t2 := (hb4.cell (p := ⟨w1.heap.size, 2, none⟩) (by dsimp only; omega)).trans t2
  replace t3 := (hb4.cell (p := ⟨w1.heap.size, 3, none⟩) (by dsimp only; omega)).trans t3
  replace t4 := (hb4.cell (p := ⟨w1.heap.size, 4, none⟩) (by dsimp only; omega)).trans t4
  replace t5 := (hb4.cell (p := ⟨w1.heap.size, 5, none⟩) (by dsimp only; omega)).trans t5
  replace tf0 := (hb4.frozen (p := ⟨w1.heap.size, 0, none⟩) (by dsimp only; omega)).trans tf0
  replace tf1 := (hb4.frozen (p := ⟨w1.heap.size, 1, none⟩) (by dsimp only; omega)).trans tf1
  replace tf2 := (hb4.frozen (p := ⟨w1.heap.size, 2, none⟩) (by dsimp only; omega)).trans tf2
  replace tf3 := (hb4.frozen (p := ⟨w1.heap.size, 3, none⟩) (by dsimp only; omega)).trans tf3
  replace tf4 := (hb4.frozen (p := ⟨w1.heap.size, 4, none⟩) (by dsimp only; omega)).trans tf4
  replace tf5 := (hb4.frozen (p := ⟨w1.heap.size, 5, none⟩) (by dsimp only; omega)).trans tf5
  have hz_w4 := hb4.size
  try simp only [World.size_alloc, World.size_setCell] at hz_w4
  have all_c : w4.cell? ⟨w.heap.size, 0, none⟩ = some (.int .i64 0) ∧ w4.cell? ⟨w.heap.size, 1, none⟩ = some (.slice none 0 0) ∧ w4.cell? ⟨w.heap.size, 2, none⟩ = some (.slice none 0 0) ∧ w4.cell? ⟨w.heap.size, 3, none⟩ = some (.slice none 0 0) ∧ w4.cell? ⟨w.heap.size, 4, none⟩ = some (.slice none 0 0) ∧ w4.cell? ⟨w.heap.size, 5, none⟩ = some (.int .u64 0) := by refine ⟨?_, ?_, ?_, ?_, ?_, ?_⟩ <;> (refine (hb4.cell ?_).trans ?_ <;> first | (first | (with_reducible assumption) | omega | (simp only [World.size_alloc, World.size_setCell, World.size_drew, World.heap_drewN] <;> omega) | (simp <;> omega)) | (first | (with_reducible assumption) | ((try simp (disch := first | omega | (simp only [World.size_alloc, World.size_setCell, World.size_drew, World.heap_drewN] <;> omega) | fail) only [World.cell?_alloc_past, World.cell?_alloc_at, World.frozen?_alloc_past, World.frozen?_alloc_at, World.frozen?_setCell, World.cell?_drew, World.frozen?_drew]) <;> first | (with_reducible assumption) | rfl)))
  have all_f : w4.frozen? ⟨w.heap.size, 0, none⟩ = false ∧ w4.frozen? ⟨w.heap.size, 1, none⟩ = false ∧ w4.frozen? ⟨w.heap.size, 2, none⟩ = false ∧ w4.frozen? ⟨w.heap.size, 3, none⟩ = false ∧ w4.frozen? ⟨w.heap.size, 4, none⟩ = false ∧ w4.frozen? ⟨w.heap.size, 5, none⟩ = false := by refine ⟨?_, ?_, ?_, ?_, ?_, ?_⟩ <;> (refine (hb4.frozen ?_).trans ?_ <;> first | (first | (with_reducible assumption) | omega | (simp only [World.size_alloc, World.size_setCell, World.size_drew, World.heap_drewN] <;> omega) | (simp <;> omega)) | (first | (with_reducible assumption) | ((try simp (disch := first | omega | (simp only [World.size_alloc, World.size_setCell, World.size_drew, World.heap_drewN] <;> omega) | fail) only [World.cell?_alloc_past, World.cell?_alloc_at, World.frozen?_alloc_past, World.frozen?_alloc_at, World.frozen?_setCell, World.cell?_drew, World.frozen?_drew]) <;> first | (with_reducible assumption) | rfl)))
  have all_z : w.heap.size < w4.heap.size := by omega
  clear c_r0 c_r1 c_r2 c_r3 c_r4 c_r5 f_r0 f_r1 f_r2 f_r3 f_r4 f_r5 z_r
  obtain ⟨c_r0, c_r1, c_r2, c_r3, c_r4, c_r5⟩ := all_c
  try clear all_c
  obtain ⟨f_r0, f_r1, f_r2, f_r3, f_r4, f_r5⟩ := all_f
  try clear all_f
  have z_r := all_z
  try clear all_z
  have hB4 : Below w.heap.size w w4 := below_via hb4 hBw3 (by omega)
  have HP1 := Lib.hid p1
  have HP2 := Lib.hid p2
  have HP3 := Lib.hid p3
  have HP4 := Lib.hid p4
  clear p1 p2 p3 p4 tf PT TW FL hps hpr ha3 hb3 hc ha hb hin i1 i2 i3 i4 hba hbb hbc NW
  go_wp2
  have hkF : ∀ q, q ≠ w1.heap.size → ((((((w4.setCell ⟨w1.heap.size, 0, none⟩ (.int .i64 chC.seg)).setCell ⟨w1.heap.size, 1, none⟩ (.slice b1 chC.ws.length d1)).setCell ⟨w1.heap.size, 2, none⟩ (.slice b2 chC.ks.length d2)).setCell ⟨w1.heap.size, 3, none⟩ (.slice b3 chC.vs.length d3)).setCell ⟨w1.heap.size, 4, none⟩ (.slice b4 chC.cs.length d4)).setCell ⟨w1.heap.size, 5, none⟩ (.int .u64 chC.laid)).heap[q]? = w4.heap[q]? := fun q hq => by rw [heap_setCell_ne _ _ _ hq, heap_setCell_ne _ _ _ hq, heap_setCell_ne _ _ _ hq, heap_setCell_ne _ _ _ hq, heap_setCell_ne _ _ _ hq, heap_setCell_ne _ _ _ hq]
  have hB5 : Below w.heap.size w ((((((w4.setCell ⟨w1.heap.size, 0, none⟩ (.int .i64 chC.seg)).setCell ⟨w1.heap.size, 1, none⟩ (.slice b1 chC.ws.length d1)).setCell ⟨w1.heap.size, 2, none⟩ (.slice b2 chC.ks.length d2)).setCell ⟨w1.heap.size, 3, none⟩ (.slice b3 chC.vs.length d3)).setCell ⟨w1.heap.size, 4, none⟩ (.slice b4 chC.cs.length d4)).setCell ⟨w1.heap.size, 5, none⟩ (.int .u64 chC.laid)) := (((((hB4.setCell (by dsimp only; omega) _).setCell (by dsimp only; omega) _).setCell (by dsimp only; omega) _).setCell (by dsimp only; omega) _).setCell (by dsimp only; omega) _).setCell (by dsimp only; omega) _
  generalize ((((((w4.setCell ⟨w1.heap.size, 0, none⟩ (.int .i64 chC.seg)).setCell ⟨w1.heap.size, 1, none⟩ (.slice b1 chC.ws.length d1)).setCell ⟨w1.heap.size, 2, none⟩ (.slice b2 chC.ks.length d2)).setCell ⟨w1.heap.size, 3, none⟩ (.slice b3 chC.vs.length d3)).setCell ⟨w1.heap.size, 4, none⟩ (.slice b4 chC.cs.length d4)).setCell ⟨w1.heap.size, 5, none⟩ (.int .u64 chC.laid)) = w5 at *
  have k0 := (World.cell?_of_block (a := ⟨w.heap.size, 0, none⟩) (hkF w.heap.size (by omega))).trans c_r0
  have k1 := (World.cell?_of_block (a := ⟨w.heap.size, 1, none⟩) (hkF w.heap.size (by omega))).trans c_r1
  have k2 := (World.cell?_of_block (a := ⟨w.heap.size, 2, none⟩) (hkF w.heap.size (by omega))).trans c_r2
  have k3 := (World.cell?_of_block (a := ⟨w.heap.size, 3, none⟩) (hkF w.heap.size (by omega))).trans c_r3
  have k4 := (World.cell?_of_block (a := ⟨w.heap.size, 4, none⟩) (hkF w.heap.size (by omega))).trans c_r4
  have k5 := (World.cell?_of_block (a := ⟨w.heap.size, 5, none⟩) (hkF w.heap.size (by omega))).trans c_r5
  have hkE : ∀ q, q ≠ w.heap.size → ((((((w5.setCell ⟨w.heap.size, 0, none⟩ (.int .i64 chC.seg)).setCell ⟨w.heap.size, 1, none⟩ (.slice b1 chC.ws.length d1)).setCell ⟨w.heap.size, 2, none⟩ (.slice b2 chC.ks.length d2)).setCell ⟨w.heap.size, 3, none⟩ (.slice b3 chC.vs.length d3)).setCell ⟨w.heap.size, 4, none⟩ (.slice b4 chC.cs.length d4)).setCell ⟨w.heap.size, 5, none⟩ (.int .u64 chC.laid)).heap[q]? = w5.heap[q]? := fun q hq => by rw [heap_setCell_ne _ _ _ hq, heap_setCell_ne _ _ _ hq, heap_setCell_ne _ _ _ hq, heap_setCell_ne _ _ _ hq, heap_setCell_ne _ _ _ hq, heap_setCell_ne _ _ _ hq]
  refine bodyPost_ret (results_c rfl rfl (run_loadVar_many _ Try.underlying29 rfl (by kernel_rfl) (six_set k0 k1 k2 k3 k4 k5))) rfl ⟨_, _, _, _, rfl, ?_, ?_, ?_, ?_, ?_⟩
  · exact owns_base (owns_heap HP1.out fun j hj => by have := (HP1.out.lt j hj).1; exact (hkE j (by omega)).trans (hkF j (by omega))) (by omega)
  · exact owns_base (owns_heap HP2.out fun j hj => by have := (HP2.out.lt j hj).1; exact (hkE j (by omega)).trans (hkF j (by omega))) (by omega)
  · exact owns_base (owns_heap HP3.out fun j hj => by have := (HP3.out.lt j hj).1; exact (hkE j (by omega)).trans (hkF j (by omega))) (by omega)
  · exact owns_base (owns_heap HP4.out fun j hj => by have := (HP4.out.lt j hj).1; exact (hkE j (by omega)).trans (hkF j (by omega))) (by omega)
  · exact (((((hB5.setCell (by dsimp only; omega) _).setCell (by dsimp only; omega) _).setCell (by dsimp only; omega) _).setCell (by dsimp only; omega) _).setCell (by dsimp only; omega) _).setCell (by dsimp only; omega) _
end

section
open Go.RowKit

def chT : SlC := lyC chC 5 6 0
theorem chT_eq : chT = ⟨4, [12841], [1, 0, 0, 5, 0, 6, 0, 0, 0, 7, 0, 0, 9, 12, 0, 0], [0, 0, 0, 0, 0, 0, 0, 0, 0, 0, 0, 0, 0, 0, 0, 0], [2, 1, 1, 2], 6⟩ := by
  have h : (decide (chT.seg = 4) && decide (chT.ws = [12841]) && decide (chT.ks = [1, 0, 0, 5, 0, 6, 0, 0, 0, 7, 0, 0, 9, 12, 0, 0]) && decide (chT.vs = [0, 0, 0, 0, 0, 0, 0, 0, 0, 0, 0, 0, 0, 0, 0, 0]) && decide (chT.cs = [2, 1, 1, 2]) && decide (chT.laid = 6)) = true := by unfold chT; rw [chC_eq]; decide +kernel
  simp only [Bool.and_eq_true, decide_eq_true_eq] at h
  obtain ⟨⟨⟨⟨⟨h1, h2⟩, h3⟩, h4⟩, h5⟩, h6⟩ := h
  cases hc : chT with
  | mk a b c d e f => rw [hc] at h1 h2 h3 h4 h5 h6; simp only at h1 h2 h3 h4 h5 h6; subst h1 h2 h3 h4 h5 h6; rfl
theorem chT_u : U64s chT.ws := okC_u (by rw [chT_eq]; decide +kernel)
theorem chT_bld : bldE chT = 0 := by rw [chT_eq]; decide +kernel
theorem chT_lev : bldL chT = 3 := by rw [chT_eq]; decide +kernel
theorem chC_slE : slE chC = 0 := by rw [chC_eq]; decide +kernel

theorem chLay_ok (a : SlA) (w : World) (hin : SlIn w chC a) : Calls Try.prog 63 #[slV chC a, .int .i64 5, .agg #[.int .i64 6, .int .i64 0]] w (FreshSl2 w chT (.int .i64 0)) := by
  have CK := Lib.hid (fun W (hb : Below w.heap.size w W) => slCheck_ok chC a (by rw [chC_eq]; decide) (by rw [chC_eq]; decide) W (hin.below hb))
  rw [chC_slE] at CK
  have TW := Lib.hid (fun W (hb : Below w.heap.size w W) => slTwin_ok chC a W (hin.below hb) (by rw [chC_eq]; decide) (by rw [chC_eq]; decide) (by rw [chC_eq]; decide) (by rw [chC_eq]; decide))
  have hk : chC.ks.length = 16 := by rw [chC_eq]; rfl
  have hv : chC.vs.length = 16 := by rw [chC_eq]; rfl
  dsimp only [slV] at *
  rw [hk, hv] at CK TW ⊢
  exact slLayW_core w chC.seg a.wa a.ka a.va a.ca a.wc a.kc a.vc a.cc chC.ws.length 16 chC.cs.length chC.laid chC 5 4 6 0 rfl rfl rfl hk hv rfl (by rw [chC_eq]; decide) (by decide) (by rw [chC_eq]; decide) (by decide) (by rw [chC_eq]; decide) (by rw [chC_eq]; decide) (by rw [chC_eq]; rfl) (by decide) (by decide) (by rw [chC_eq]; decide) (by rw [chC_eq]; decide) (by rw [chC_eq]; decide +kernel) CK TW

set_option maxRecDepth 100000 in
set_option maxHeartbeats 1000000 in
theorem turned_ok (w : World) : Calls Try.prog 30 #[] w (FreshSl w chT) := by
  have CH := Lib.hid chapter_ok
  have LY := Lib.hid chLay_ok
  have HU := Lib.hid chC_u
  unfold FreshSl at CH
  dsimp only [slV] at LY
  generalize chC = c at *
  generalize chT = ct at *
  go_enter Try.func30, Try.ntmps30
  go_wp2_with fail
  refine (CH.out _).mono ?_
  rintro e w1 ⟨v1, v2, v3, v4, rfl, o1, o2, o3, o4, hb1⟩
  have hz_w1 := hb1.size
  try simp only [World.size_alloc, World.size_setCell] at hz_w1
  have all_c : w1.cell? ⟨w.heap.size, 0, none⟩ = some (.int .i64 0) ∧ w1.cell? ⟨w.heap.size, 1, none⟩ = some (.slice none 0 0) ∧ w1.cell? ⟨w.heap.size, 2, none⟩ = some (.slice none 0 0) ∧ w1.cell? ⟨w.heap.size, 3, none⟩ = some (.slice none 0 0) ∧ w1.cell? ⟨w.heap.size, 4, none⟩ = some (.slice none 0 0) ∧ w1.cell? ⟨w.heap.size, 5, none⟩ = some (.int .u64 0) := by refine ⟨?_, ?_, ?_, ?_, ?_, ?_⟩ <;> (refine (hb1.cell ?_).trans ?_ <;> first | (first | (with_reducible assumption) | omega | (simp only [World.size_alloc, World.size_setCell, World.size_drew, World.heap_drewN] <;> omega) | (simp <;> omega)) | (first | (with_reducible assumption) | ((try simp (disch := first | omega | (simp only [World.size_alloc, World.size_setCell, World.size_drew, World.heap_drewN] <;> omega) | fail) only [World.cell?_alloc_past, World.cell?_alloc_at, World.frozen?_alloc_past, World.frozen?_alloc_at, World.frozen?_setCell, World.cell?_drew, World.frozen?_drew]) <;> first | (with_reducible assumption) | rfl)))
  have all_f : w1.frozen? ⟨w.heap.size, 0, none⟩ = false ∧ w1.frozen? ⟨w.heap.size, 1, none⟩ = false ∧ w1.frozen? ⟨w.heap.size, 2, none⟩ = false ∧ w1.frozen? ⟨w.heap.size, 3, none⟩ = false ∧ w1.frozen? ⟨w.heap.size, 4, none⟩ = false ∧ w1.frozen? ⟨w.heap.size, 5, none⟩ = false := by refine ⟨?_, ?_, ?_, ?_, ?_, ?_⟩ <;> (refine (hb1.frozen ?_).trans ?_ <;> first | (first | (with_reducible assumption) | omega | (simp only [World.size_alloc, World.size_setCell, World.size_drew, World.heap_drewN] <;> omega) | (simp <;> omega)) | (first | (with_reducible assumption) | ((try simp (disch := first | omega | (simp only [World.size_alloc, World.size_setCell, World.size_drew, World.heap_drewN] <;> omega) | fail) only [World.cell?_alloc_past, World.cell?_alloc_at, World.frozen?_alloc_past, World.frozen?_alloc_at, World.frozen?_setCell, World.cell?_drew, World.frozen?_drew]) <;> first | (with_reducible assumption) | rfl)))
  have all_z : w.heap.size < w1.heap.size := by omega
  obtain ⟨c_r0, c_r1, c_r2, c_r3, c_r4, c_r5⟩ := all_c
  try clear all_c
  obtain ⟨f_r0, f_r1, f_r2, f_r3, f_r4, f_r5⟩ := all_f
  try clear all_f
  have z_r := all_z
  try clear all_z
  obtain ⟨a1, c1, rfl, i1, -, -, -, -⟩ := row_of_owns o1
  obtain ⟨a2, c2, rfl, i2, -, -, -, -⟩ := row_of_owns o2
  obtain ⟨a3, c3, rfl, i3, -, -, -, -⟩ := row_of_owns o3
  obtain ⟨a4, c4, rfl, i4, -, -, -, -⟩ := row_of_owns o4
  have LY1 := Lib.hid (LY.out ⟨a1, a2, a3, a4, c1, c2, c3, c4⟩ w1 ⟨i1, i2, i3, i4, HU.out⟩)
  have hB1 : Below w.heap.size w w1 := by (repeat (first | (with_reducible exact Below.refl _ _) | (with_reducible assumption) | (with_reducible exact Hid.out (by with_reducible assumption)) | (with_reducible refine Below.alloc ?_ ?_ _) | (with_reducible refine Below.setCell ?_ ?_ _) | (with_reducible refine below_drewN ?_ _) | (with_reducible refine Below.drew ?_) | (with_reducible refine below_via (by with_reducible assumption) ?_ ?_) | (first | (with_reducible assumption) | omega | (simp only [World.size_alloc, World.size_setCell, World.size_drew, World.heap_drewN] <;> omega) | (simp <;> omega))))
  clear o1 o2 o3 o4 i1 i2 i3 i4 hb1
  go_wp2_with fail
  refine LY1.out.mono ?_
  rintro e w2 ⟨v1, v2, v3, v4, rfl, o1, o2, o3, o4, hb2⟩
  obtain ⟨b1, bc1, rfl, -⟩ := owns_news o1
  obtain ⟨b2, bc2, rfl, -⟩ := owns_news o2
  obtain ⟨b3, bc3, rfl, -⟩ := owns_news o3
  obtain ⟨b4, bc4, rfl, -⟩ := owns_news o4
  have hz_w2 := hb2.size
  try simp only [World.size_alloc, World.size_setCell] at hz_w2
  have all_c : w2.cell? ⟨w.heap.size, 0, none⟩ = some (.int .i64 0) ∧ w2.cell? ⟨w.heap.size, 1, none⟩ = some (.slice none 0 0) ∧ w2.cell? ⟨w.heap.size, 2, none⟩ = some (.slice none 0 0) ∧ w2.cell? ⟨w.heap.size, 3, none⟩ = some (.slice none 0 0) ∧ w2.cell? ⟨w.heap.size, 4, none⟩ = some (.slice none 0 0) ∧ w2.cell? ⟨w.heap.size, 5, none⟩ = some (.int .u64 0) := by refine ⟨?_, ?_, ?_, ?_, ?_, ?_⟩ <;> (refine (hb2.cell ?_).trans ?_ <;> first | (first | (with_reducible assumption) | omega | (simp only [World.size_alloc, World.size_setCell, World.size_drew, World.heap_drewN] <;> omega) | (simp <;> omega)) | (first | (with_reducible assumption) | ((try simp (disch := first | omega | (simp only [World.size_alloc, World.size_setCell, World.size_drew, World.heap_drewN] <;> omega) | fail) only [World.cell?_alloc_past, World.cell?_alloc_at, World.frozen?_alloc_past, World.frozen?_alloc_at, World.frozen?_setCell, World.cell?_drew, World.frozen?_drew]) <;> first | (with_reducible assumption) | rfl)))
  have all_f : w2.frozen? ⟨w.heap.size, 0, none⟩ = false ∧ w2.frozen? ⟨w.heap.size, 1, none⟩ = false ∧ w2.frozen? ⟨w.heap.size, 2, none⟩ = false ∧ w2.frozen? ⟨w.heap.size, 3, none⟩ = false ∧ w2.frozen? ⟨w.heap.size, 4, none⟩ = false ∧ w2.frozen? ⟨w.heap.size, 5, none⟩ = false := by refine ⟨?_, ?_, ?_, ?_, ?_, ?_⟩ <;> (refine (hb2.frozen ?_).trans ?_ <;> first | (first | (with_reducible assumption) | omega | (simp only [World.size_alloc, World.size_setCell, World.size_drew, World.heap_drewN] <;> omega) | (simp <;> omega)) | (first | (with_reducible assumption) | ((try simp (disch := first | omega | (simp only [World.size_alloc, World.size_setCell, World.size_drew, World.heap_drewN] <;> omega) | fail) only [World.cell?_alloc_past, World.cell?_alloc_at, World.frozen?_alloc_past, World.frozen?_alloc_at, World.frozen?_setCell, World.cell?_drew, World.frozen?_drew]) <;> first | (with_reducible assumption) | rfl)))
  have all_z : w.heap.size < w2.heap.size := by omega
  clear c_r0 c_r1 c_r2 c_r3 c_r4 c_r5 f_r0 f_r1 f_r2 f_r3 f_r4 f_r5 z_r
  obtain ⟨c_r0, c_r1, c_r2, c_r3, c_r4, c_r5⟩ := all_c
  try clear all_c
  obtain ⟨f_r0, f_r1, f_r2, f_r3, f_r4, f_r5⟩ := all_f
  try clear all_f
  have z_r := all_z
  try clear all_z
  have hB2 : Below w.heap.size w w2 := below_via hb2 hB1 (by omega)
  have hal : Below w2.heap.size w2 (w2.alloc (.cells #[.int .i64 ct.seg, .slice b1 ct.ws.length bc1, .slice b2 ct.ks.length bc2, .slice b3 ct.vs.length bc3, .slice b4 ct.cs.length bc4, .int .u64 ct.laid] 29)) := (Below.refl _ _).alloc (Nat.le_refl _) _
  have HP1 := Lib.hid (owns_below o1 hal)
  have HP2 := Lib.hid (owns_below o2 hal)
  have HP3 := Lib.hid (owns_below o3 hal)
  have HP4 := Lib.hid (owns_below o4 hal)
  have hB3 : Below w.heap.size w (w2.alloc (.cells #[.int .i64 ct.seg, .slice b1 ct.ws.length bc1, .slice b2 ct.ks.length bc2, .slice b3 ct.vs.length bc3, .slice b4 ct.cs.length bc4, .int .u64 ct.laid] 29)) := hB2.alloc (by omega) _
  have hz2 : w1.heap.size ≤ w2.heap.size := by omega
  have hz3 : (w2.alloc (.cells #[.int .i64 ct.seg, .slice b1 ct.ws.length bc1, .slice b2 ct.ks.length bc2, .slice b3 ct.vs.length bc3, .slice b4 ct.cs.length bc4, .int .u64 ct.laid] 29)).heap.size = w2.heap.size + 1 := by simp
  have k0 := (hal.cell (p := ⟨w.heap.size, 0, none⟩) (by dsimp only; omega)).trans c_r0
  have k1 := (hal.cell (p := ⟨w.heap.size, 1, none⟩) (by dsimp only; omega)).trans c_r1
  have k2 := (hal.cell (p := ⟨w.heap.size, 2, none⟩) (by dsimp only; omega)).trans c_r2
  have k3 := (hal.cell (p := ⟨w.heap.size, 3, none⟩) (by dsimp only; omega)).trans c_r3
  have k4 := (hal.cell (p := ⟨w.heap.size, 4, none⟩) (by dsimp only; omega)).trans c_r4
  have k5 := (hal.cell (p := ⟨w.heap.size, 5, none⟩) (by dsimp only; omega)).trans c_r5
  have p0 : (w2.alloc (.cells #[.int .i64 ct.seg, .slice b1 ct.ws.length bc1, .slice b2 ct.ks.length bc2, .slice b3 ct.vs.length bc3, .slice b4 ct.cs.length bc4, .int .u64 ct.laid] 29)).cell? ⟨w2.heap.size, 0, none⟩ = some (.int .i64 ct.seg) := by (first | (with_reducible assumption) | ((try simp (disch := first | omega | (simp only [World.size_alloc, World.size_setCell, World.size_drew, World.heap_drewN] <;> omega) | fail) only [World.cell?_alloc_past, World.cell?_alloc_at, World.frozen?_alloc_past, World.frozen?_alloc_at, World.frozen?_setCell, World.cell?_drew, World.frozen?_drew]) <;> first | (with_reducible assumption) | rfl))
  have p1 : (w2.alloc (.cells #[.int .i64 ct.seg, .slice b1 ct.ws.length bc1, .slice b2 ct.ks.length bc2, .slice b3 ct.vs.length bc3, .slice b4 ct.cs.length bc4, .int .u64 ct.laid] 29)).cell? ⟨w2.heap.size, 1, none⟩ = some (.slice b1 ct.ws.length bc1) := by (first | (with_reducible assumption) | ((try simp (disch := first | omega | (simp only [World.size_alloc, World.size_setCell, World.size_drew, World.heap_drewN] <;> omega) | fail) only [World.cell?_alloc_past, World.cell?_alloc_at, World.frozen?_alloc_past, World.frozen?_alloc_at, World.frozen?_setCell, World.cell?_drew, World.frozen?_drew]) <;> first | (with_reducible assumption) | rfl))
  have p2 : (w2.alloc (.cells #[.int .i64 ct.seg, .slice b1 ct.ws.length bc1, .slice b2 ct.ks.length bc2, .slice b3 ct.vs.length bc3, .slice b4 ct.cs.length bc4, .int .u64 ct.laid] 29)).cell? ⟨w2.heap.size, 2, none⟩ = some (.slice b2 ct.ks.length bc2) := by (first | (with_reducible assumption) | ((try simp (disch := first | omega | (simp only [World.size_alloc, World.size_setCell, World.size_drew, World.heap_drewN] <;> omega) | fail) only [World.cell?_alloc_past, World.cell?_alloc_at, World.frozen?_alloc_past, World.frozen?_alloc_at, World.frozen?_setCell, World.cell?_drew, World.frozen?_drew]) <;> first | (with_reducible assumption) | rfl))
  have p3 : (w2.alloc (.cells #[.int .i64 ct.seg, .slice b1 ct.ws.length bc1, .slice b2 ct.ks.length bc2, .slice b3 ct.vs.length bc3, .slice b4 ct.cs.length bc4, .int .u64 ct.laid] 29)).cell? ⟨w2.heap.size, 3, none⟩ = some (.slice b3 ct.vs.length bc3) := by (first | (with_reducible assumption) | ((try simp (disch := first | omega | (simp only [World.size_alloc, World.size_setCell, World.size_drew, World.heap_drewN] <;> omega) | fail) only [World.cell?_alloc_past, World.cell?_alloc_at, World.frozen?_alloc_past, World.frozen?_alloc_at, World.frozen?_setCell, World.cell?_drew, World.frozen?_drew]) <;> first | (with_reducible assumption) | rfl))
  have p4 : (w2.alloc (.cells #[.int .i64 ct.seg, .slice b1 ct.ws.length bc1, .slice b2 ct.ks.length bc2, .slice b3 ct.vs.length bc3, .slice b4 ct.cs.length bc4, .int .u64 ct.laid] 29)).cell? ⟨w2.heap.size, 4, none⟩ = some (.slice b4 ct.cs.length bc4) := by (first | (with_reducible assumption) | ((try simp (disch := first | omega | (simp only [World.size_alloc, World.size_setCell, World.size_drew, World.heap_drewN] <;> omega) | fail) only [World.cell?_alloc_past, World.cell?_alloc_at, World.frozen?_alloc_past, World.frozen?_alloc_at, World.frozen?_setCell, World.cell?_drew, World.frozen?_drew]) <;> first | (with_reducible assumption) | rfl))
  have p5 : (w2.alloc (.cells #[.int .i64 ct.seg, .slice b1 ct.ws.length bc1, .slice b2 ct.ks.length bc2, .slice b3 ct.vs.length bc3, .slice b4 ct.cs.length bc4, .int .u64 ct.laid] 29)).cell? ⟨w2.heap.size, 5, none⟩ = some (.int .u64 ct.laid) := by (first | (with_reducible assumption) | ((try simp (disch := first | omega | (simp only [World.size_alloc, World.size_setCell, World.size_drew, World.heap_drewN] <;> omega) | fail) only [World.cell?_alloc_past, World.cell?_alloc_at, World.frozen?_alloc_past, World.frozen?_alloc_at, World.frozen?_setCell, World.cell?_drew, World.frozen?_drew]) <;> first | (with_reducible assumption) | rfl))
  have m0 := (hal.frozen (p := ⟨w.heap.size, 0, none⟩) (by dsimp only; omega)).trans f_r0
  have m1 := (hal.frozen (p := ⟨w.heap.size, 1, none⟩) (by dsimp only; omega)).trans f_r1
  have m2 := (hal.frozen (p := ⟨w.heap.size, 2, none⟩) (by dsimp only; omega)).trans f_r2
  have m3 := (hal.frozen (p := ⟨w.heap.size, 3, none⟩) (by dsimp only; omega)).trans f_r3
  have m4 := (hal.frozen (p := ⟨w.heap.size, 4, none⟩) (by dsimp only; omega)).trans f_r4
  have m5 := (hal.frozen (p := ⟨w.heap.size, 5, none⟩) (by dsimp only; omega)).trans f_r5
  clear o1 o2 o3 o4 LY1 hb2
  go_upto_region 2 with (fail)
  generalize w2.alloc (.cells #[.int .i64 ct.seg, .slice b1 ct.ws.length bc1, .slice b2 ct.ks.length bc2, .slice b3 ct.vs.length bc3, .slice b4 ct.cs.length bc4, .int .u64 ct.laid] 29) = w3 at *
  go_wp2
  have hkE : ∀ q, q ≠ w.heap.size → ((((((w3.setCell ⟨w.heap.size, 0, none⟩ (.int .i64 ct.seg)).setCell ⟨w.heap.size, 1, none⟩ (.slice b1 ct.ws.length bc1)).setCell ⟨w.heap.size, 2, none⟩ (.slice b2 ct.ks.length bc2)).setCell ⟨w.heap.size, 3, none⟩ (.slice b3 ct.vs.length bc3)).setCell ⟨w.heap.size, 4, none⟩ (.slice b4 ct.cs.length bc4)).setCell ⟨w.heap.size, 5, none⟩ (.int .u64 ct.laid)).heap[q]? = w3.heap[q]? := fun q hq => by rw [heap_setCell_ne _ _ _ hq, heap_setCell_ne _ _ _ hq, heap_setCell_ne _ _ _ hq, heap_setCell_ne _ _ _ hq, heap_setCell_ne _ _ _ hq, heap_setCell_ne _ _ _ hq]
  refine bodyPost_ret (results_c rfl rfl (run_loadVar_many _ Try.underlying29 rfl (by kernel_rfl) (six_set k0 k1 k2 k3 k4 k5))) rfl ⟨_, _, _, _, rfl, ?_, ?_, ?_, ?_, ?_⟩
  · exact owns_base (owns_heap HP1.out fun j hj => by have := (HP1.out.lt j hj).1; exact (hkE j (by omega))) (by omega)
  · exact owns_base (owns_heap HP2.out fun j hj => by have := (HP2.out.lt j hj).1; exact (hkE j (by omega))) (by omega)
  · exact owns_base (owns_heap HP3.out fun j hj => by have := (HP3.out.lt j hj).1; exact (hkE j (by omega))) (by omega)
  · exact owns_base (owns_heap HP4.out fun j hj => by have := (HP4.out.lt j hj).1; exact (hkE j (by omega))) (by omega)
  · exact (((((hB3.setCell (by dsimp only; omega) _).setCell (by dsimp only; omega) _).setCell (by dsimp only; omega) _).setCell (by dsimp only; omega) _).setCell (by dsimp only; omega) _).setCell (by dsimp only; omega) _
end
end Go.Proofs.Ytbmibaafkgleeaa
