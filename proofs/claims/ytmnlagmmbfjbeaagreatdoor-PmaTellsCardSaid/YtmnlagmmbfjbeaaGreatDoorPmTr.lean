/- PmaTells: the statement of the law that asks all at once: a region of its own. -/
import Derived.Test.YtmnlagmmbfjbeaaGreatDoorPmD
namespace Go.Proofs.YtmnlagmmbfjbeaaGreatDoor
open Go.RowKit Go.Sort
set_option linter.unusedVariables false
set_option linter.unusedSimpArgs false

/-- a region of a function's text, by its number -/
def fndReg (n : Nat) : Code → Option Code
  | .region k ops d => if k = n then some (.region k ops d) else none
  | .seq a b => match fndReg n a with
    | some c => some c
    | none => fndReg n b
  | .block _ c => fndReg n c
  | .scope c => fndReg n c
  | .loop c => fndReg n c
  | .cond _ a b => match fndReg n a with
    | some c => some c
    | none => fndReg n b
  | _ => none
noncomputable def tellsReg : Code := (Tryz.f3.body.bind (fndReg 11)).getD .skip
set_option maxRecDepth 100000 in
set_option maxHeartbeats 8000000 in
theorem PT_reg (W : World) (ds : List Deferred) (Bm Bo Bn Bt Bx By : Nat) (m0 m1 m2 m3 m4 m5 m6 m7 m8 m9 m10 m11 m12 m13 m14 o0 o1 o2 o3 o4 o5 o6 o7 o8 o9 o10 o11 o12 o13 o14 n0 n1 n2 n3 n4 n5 n6 n7 n8 n9 n10 n11 n12 n13 n14 t0 t1 t2 t3 t4 t5 t6 t7 t8 t9 t10 t11 t12 t13 t14 x0 x1 x2 x3 x4 x5 x6 x7 x8 x9 x10 x11 x12 x13 x14 y0 y1 y2 y3 y4 y5 y6 y7 y8 y9 y10 y11 y12 y13 y14 s0 s1 s2 s5 s6 s13 s14 s15 s16 s17 s18 s19 s20 s21 s22 s23 s24 s25 s26 s27 s28 s29 s30 s31 s32 s33 s34 s35 s36 s37 s38 s39 s40 s41 s42 s43 s44 s45 s46 s47 s48 s49 s50 s51 s52 s53 s54 s55 s56 s57 s58 s59 s60 s61 s62 s63 s64 s65 s66 s67 s68 s69 s70 s71 s72 s73 s74 s75 s76 s77 s78 s79 s80 s81 s82 s83 s84 s85 s86 s87 s88 s89 s90 s91 s92 s93 s94 s95 s96 s97 s98 s99 s100 s101 s102 s103 s104 s105 s106 s107 s108 s109 s110 s111 s112 s113 s114 s115 s116 s117 s118 s119 s120 s121 s122 s123 s124 s125 s126 s127 : Value) (pe ce : Int) (bb : Bool)
    (c_m0 : W.cell? ⟨Bm, 0, none⟩ = some m0)
    (c_m1 : W.cell? ⟨Bm, 1, none⟩ = some m1)
    (c_m2 : W.cell? ⟨Bm, 2, none⟩ = some m2)
    (c_m3 : W.cell? ⟨Bm, 3, none⟩ = some m3)
    (c_m4 : W.cell? ⟨Bm, 4, none⟩ = some m4)
    (c_m5 : W.cell? ⟨Bm, 5, none⟩ = some m5)
    (c_m6 : W.cell? ⟨Bm, 6, none⟩ = some m6)
    (c_m7 : W.cell? ⟨Bm, 7, none⟩ = some m7)
    (c_m8 : W.cell? ⟨Bm, 8, none⟩ = some m8)
    (c_m9 : W.cell? ⟨Bm, 9, none⟩ = some m9)
    (c_m10 : W.cell? ⟨Bm, 10, none⟩ = some m10)
    (c_m11 : W.cell? ⟨Bm, 11, none⟩ = some m11)
    (c_m12 : W.cell? ⟨Bm, 12, none⟩ = some m12)
    (c_m13 : W.cell? ⟨Bm, 13, none⟩ = some m13)
    (c_m14 : W.cell? ⟨Bm, 14, none⟩ = some m14)
    (c_o0 : W.cell? ⟨Bo, 0, none⟩ = some o0)
    (c_o1 : W.cell? ⟨Bo, 1, none⟩ = some o1)
    (c_o2 : W.cell? ⟨Bo, 2, none⟩ = some o2)
    (c_o3 : W.cell? ⟨Bo, 3, none⟩ = some o3)
    (c_o4 : W.cell? ⟨Bo, 4, none⟩ = some o4)
    (c_o5 : W.cell? ⟨Bo, 5, none⟩ = some o5)
    (c_o6 : W.cell? ⟨Bo, 6, none⟩ = some o6)
    (c_o7 : W.cell? ⟨Bo, 7, none⟩ = some o7)
    (c_o8 : W.cell? ⟨Bo, 8, none⟩ = some o8)
    (c_o9 : W.cell? ⟨Bo, 9, none⟩ = some o9)
    (c_o10 : W.cell? ⟨Bo, 10, none⟩ = some o10)
    (c_o11 : W.cell? ⟨Bo, 11, none⟩ = some o11)
    (c_o12 : W.cell? ⟨Bo, 12, none⟩ = some o12)
    (c_o13 : W.cell? ⟨Bo, 13, none⟩ = some o13)
    (c_o14 : W.cell? ⟨Bo, 14, none⟩ = some o14)
    (c_n0 : W.cell? ⟨Bn, 0, none⟩ = some n0)
    (c_n1 : W.cell? ⟨Bn, 1, none⟩ = some n1)
    (c_n2 : W.cell? ⟨Bn, 2, none⟩ = some n2)
    (c_n3 : W.cell? ⟨Bn, 3, none⟩ = some n3)
    (c_n4 : W.cell? ⟨Bn, 4, none⟩ = some n4)
    (c_n5 : W.cell? ⟨Bn, 5, none⟩ = some n5)
    (c_n6 : W.cell? ⟨Bn, 6, none⟩ = some n6)
    (c_n7 : W.cell? ⟨Bn, 7, none⟩ = some n7)
    (c_n8 : W.cell? ⟨Bn, 8, none⟩ = some n8)
    (c_n9 : W.cell? ⟨Bn, 9, none⟩ = some n9)
    (c_n10 : W.cell? ⟨Bn, 10, none⟩ = some n10)
    (c_n11 : W.cell? ⟨Bn, 11, none⟩ = some n11)
    (c_n12 : W.cell? ⟨Bn, 12, none⟩ = some n12)
    (c_n13 : W.cell? ⟨Bn, 13, none⟩ = some n13)
    (c_n14 : W.cell? ⟨Bn, 14, none⟩ = some n14)
    (c_t0 : W.cell? ⟨Bt, 0, none⟩ = some t0)
    (c_t1 : W.cell? ⟨Bt, 1, none⟩ = some t1)
    (c_t2 : W.cell? ⟨Bt, 2, none⟩ = some t2)
    (c_t3 : W.cell? ⟨Bt, 3, none⟩ = some t3)
    (c_t4 : W.cell? ⟨Bt, 4, none⟩ = some t4)
    (c_t5 : W.cell? ⟨Bt, 5, none⟩ = some t5)
    (c_t6 : W.cell? ⟨Bt, 6, none⟩ = some t6)
    (c_t7 : W.cell? ⟨Bt, 7, none⟩ = some t7)
    (c_t8 : W.cell? ⟨Bt, 8, none⟩ = some t8)
    (c_t9 : W.cell? ⟨Bt, 9, none⟩ = some t9)
    (c_t10 : W.cell? ⟨Bt, 10, none⟩ = some t10)
    (c_t11 : W.cell? ⟨Bt, 11, none⟩ = some t11)
    (c_t12 : W.cell? ⟨Bt, 12, none⟩ = some t12)
    (c_t13 : W.cell? ⟨Bt, 13, none⟩ = some t13)
    (c_t14 : W.cell? ⟨Bt, 14, none⟩ = some t14)
    (c_x0 : W.cell? ⟨Bx, 0, none⟩ = some x0)
    (c_x1 : W.cell? ⟨Bx, 1, none⟩ = some x1)
    (c_x2 : W.cell? ⟨Bx, 2, none⟩ = some x2)
    (c_x3 : W.cell? ⟨Bx, 3, none⟩ = some x3)
    (c_x4 : W.cell? ⟨Bx, 4, none⟩ = some x4)
    (c_x5 : W.cell? ⟨Bx, 5, none⟩ = some x5)
    (c_x6 : W.cell? ⟨Bx, 6, none⟩ = some x6)
    (c_x7 : W.cell? ⟨Bx, 7, none⟩ = some x7)
    (c_x8 : W.cell? ⟨Bx, 8, none⟩ = some x8)
    (c_x9 : W.cell? ⟨Bx, 9, none⟩ = some x9)
    (c_x10 : W.cell? ⟨Bx, 10, none⟩ = some x10)
    (c_x11 : W.cell? ⟨Bx, 11, none⟩ = some x11)
    (c_x12 : W.cell? ⟨Bx, 12, none⟩ = some x12)
    (c_x13 : W.cell? ⟨Bx, 13, none⟩ = some x13)
    (c_x14 : W.cell? ⟨Bx, 14, none⟩ = some x14)
    (c_y0 : W.cell? ⟨By, 0, none⟩ = some y0)
    (c_y1 : W.cell? ⟨By, 1, none⟩ = some y1)
    (c_y2 : W.cell? ⟨By, 2, none⟩ = some y2)
    (c_y3 : W.cell? ⟨By, 3, none⟩ = some y3)
    (c_y4 : W.cell? ⟨By, 4, none⟩ = some y4)
    (c_y5 : W.cell? ⟨By, 5, none⟩ = some y5)
    (c_y6 : W.cell? ⟨By, 6, none⟩ = some y6)
    (c_y7 : W.cell? ⟨By, 7, none⟩ = some y7)
    (c_y8 : W.cell? ⟨By, 8, none⟩ = some y8)
    (c_y9 : W.cell? ⟨By, 9, none⟩ = some y9)
    (c_y10 : W.cell? ⟨By, 10, none⟩ = some y10)
    (c_y11 : W.cell? ⟨By, 11, none⟩ = some y11)
    (c_y12 : W.cell? ⟨By, 12, none⟩ = some y12)
    (c_y13 : W.cell? ⟨By, 13, none⟩ = some y13)
    (c_y14 : W.cell? ⟨By, 14, none⟩ = some y14)
    (CO : Hid (∀ W', Below W.heap.size W W' → Calls Tryz.prog 14 #[.agg #[n0, n1, n2, n3, n4, n5, n6, n7, n8, n9, n10, n11, n12, n13, n14]] W' (AnsB W' (.int .i64 pe))))
    (CM : Hid (∀ W', Below W.heap.size W W' → Calls Tryz.prog 15 #[.agg #[m0, m1, m2, m3, m4, m5, m6, m7, m8, m9, m10, m11, m12, m13, m14]] W' (AnsB W' (.int .i64 pe))))
    (S1 : Hid (∀ W', Below W.heap.size W W' → Calls Tryz.prog 16 #[.agg #[n0, n1, n2, n3, n4, n5, n6, n7, n8, n9, n10, n11, n12, n13, n14], .agg #[o0, o1, o2, o3, o4, o5, o6, o7, o8, o9, o10, o11, o12, o13, o14]] W' (AnsB W' (.bool bb))))
    (S2 : Hid (∀ W', Below W.heap.size W W' → Calls Tryz.prog 17 #[.agg #[m0, m1, m2, m3, m4, m5, m6, m7, m8, m9, m10, m11, m12, m13, m14], .agg #[o0, o1, o2, o3, o4, o5, o6, o7, o8, o9, o10, o11, o12, o13, o14]] W' (AnsB W' (.bool bb))))
    (S3 : Hid (∀ W', Below W.heap.size W W' → Calls Tryz.prog 16 #[.agg #[n0, n1, n2, n3, n4, n5, n6, n7, n8, n9, n10, n11, n12, n13, n14], .agg #[m0, m1, m2, m3, m4, m5, m6, m7, m8, m9, m10, m11, m12, m13, m14]] W' (AnsB W' (.bool true))))
    (S4 : Hid (∀ W', Below W.heap.size W W' → Calls Tryz.prog 17 #[.agg #[t0, t1, t2, t3, t4, t5, t6, t7, t8, t9, t10, t11, t12, t13, t14], .agg #[m0, m1, m2, m3, m4, m5, m6, m7, m8, m9, m10, m11, m12, m13, m14]] W' (AnsB W' (.bool true))))
    (S5 : Hid (∀ W', Below W.heap.size W W' → Calls Tryz.prog 17 #[.agg #[x0, x1, x2, x3, x4, x5, x6, x7, x8, x9, x10, x11, x12, x13, x14], .agg #[y0, y1, y2, y3, y4, y5, y6, y7, y8, y9, y10, y11, y12, y13, y14]] W' (AnsB W' (.bool true)))) :
    Code.wp Tryz.prog tellsReg (Exit.then (fun a' w' => (∃ dq os, w' = grow (redrawn W dq) os) ∧ ∃ u66 u67 u68 u69 u70 u71 u72 u73 u74 u75 u76 u77 u78 u79 u80 u81 u82 u83 u84 u85 u86 u87 u88 u89 u90 u91 u92 u93 u94 u95 u96 u97 u98 u99 : Value, a' = { tmps := List.toArray (s0 :: s1 :: s2 :: .pointer (some ⟨Bm, 0, none⟩) :: .pointer (some ⟨Bo, 0, none⟩) :: s5 :: s6 :: .pointer (some ⟨Bn, 0, none⟩) :: .pointer (some ⟨Bt, 0, none⟩) :: .pointer (some ⟨Bx, 0, none⟩) :: .int .i64 ce :: .pointer (some ⟨By, 0, none⟩) :: .int .i64 ce :: s13 :: s14 :: s15 :: s16 :: s17 :: s18 :: s19 :: s20 :: .bool true :: s22 :: s23 :: s24 :: s25 :: s26 :: s27 :: s28 :: s29 :: s30 :: s31 :: s32 :: s33 :: s34 :: s35 :: s36 :: s37 :: s38 :: s39 :: s40 :: s41 :: s42 :: s43 :: s44 :: s45 :: s46 :: s47 :: s48 :: s49 :: s50 :: s51 :: s52 :: s53 :: s54 :: s55 :: s56 :: s57 :: s58 :: s59 :: s60 :: s61 :: s62 :: s63 :: s64 :: s65 :: u66 :: u67 :: u68 :: u69 :: u70 :: u71 :: u72 :: u73 :: u74 :: u75 :: u76 :: u77 :: u78 :: u79 :: u80 :: u81 :: u82 :: u83 :: u84 :: u85 :: u86 :: u87 :: u88 :: u89 :: u90 :: u91 :: u92 :: u93 :: u94 :: u95 :: u96 :: u97 :: u98 :: u99 :: s100 :: s101 :: s102 :: s103 :: s104 :: s105 :: s106 :: s107 :: s108 :: s109 :: s110 :: s111 :: s112 :: s113 :: s114 :: s115 :: s116 :: s117 :: s118 :: s119 :: s120 :: s121 :: s122 :: s123 :: s124 :: s125 :: s126 :: s127 :: []), defers := ds }) (fun _ _ _ => False)) { tmps := List.toArray (s0 :: s1 :: s2 :: .pointer (some ⟨Bm, 0, none⟩) :: .pointer (some ⟨Bo, 0, none⟩) :: s5 :: s6 :: .pointer (some ⟨Bn, 0, none⟩) :: .pointer (some ⟨Bt, 0, none⟩) :: .pointer (some ⟨Bx, 0, none⟩) :: .int .i64 ce :: .pointer (some ⟨By, 0, none⟩) :: .int .i64 ce :: s13 :: s14 :: s15 :: s16 :: s17 :: s18 :: s19 :: s20 :: s21 :: s22 :: s23 :: s24 :: s25 :: s26 :: s27 :: s28 :: s29 :: s30 :: s31 :: s32 :: s33 :: s34 :: s35 :: s36 :: s37 :: s38 :: s39 :: s40 :: s41 :: s42 :: s43 :: s44 :: s45 :: s46 :: s47 :: s48 :: s49 :: s50 :: s51 :: s52 :: s53 :: s54 :: s55 :: s56 :: s57 :: s58 :: s59 :: s60 :: s61 :: s62 :: s63 :: s64 :: s65 :: s66 :: s67 :: s68 :: s69 :: s70 :: s71 :: s72 :: s73 :: s74 :: s75 :: s76 :: s77 :: s78 :: s79 :: s80 :: s81 :: s82 :: s83 :: s84 :: s85 :: s86 :: s87 :: s88 :: s89 :: s90 :: s91 :: s92 :: s93 :: s94 :: s95 :: s96 :: s97 :: s98 :: s99 :: s100 :: s101 :: s102 :: s103 :: s104 :: s105 :: s106 :: s107 :: s108 :: s109 :: s110 :: s111 :: s112 :: s113 :: s114 :: s115 :: s116 :: s117 :: s118 :: s119 :: s120 :: s121 :: s122 :: s123 :: s124 :: s125 :: s126 :: s127 :: []), defers := ds } W := by
  have g1 : (pe == pe) = true := by simp
  have g2 : (bb == bb) = true := by simp
  have g3 : (ce == ce) = true := by simp
  conv => arg 2; whnf
  have K0 := Lib.hid (fun d os => Calls.regrown_of (w := W) (d := d) (os := os) (CO.out (grow (redrawn W d) os) (below_regrown W d os)))
  have K1 := Lib.hid (fun d os => Calls.regrown_of (w := W) (d := d) (os := os) (CM.out (grow (redrawn W d) os) (below_regrown W d os)))
  have K2 := Lib.hid (fun d os => Calls.regrown_of (w := W) (d := d) (os := os) (S1.out (grow (redrawn W d) os) (below_regrown W d os)))
  have K3 := Lib.hid (fun d os => Calls.regrown_of (w := W) (d := d) (os := os) (S2.out (grow (redrawn W d) os) (below_regrown W d os)))
  have K4 := Lib.hid (fun d os => Calls.regrown_of (w := W) (d := d) (os := os) (S3.out (grow (redrawn W d) os) (below_regrown W d os)))
  have K5 := Lib.hid (fun d os => Calls.regrown_of (w := W) (d := d) (os := os) (S4.out (grow (redrawn W d) os) (below_regrown W d os)))
  have K6 := Lib.hid (fun d os => Calls.regrown_of (w := W) (d := d) (os := os) (S5.out (grow (redrawn W d) os) (below_regrown W d os)))
  have q0 := cell_regrown c_m0
  have q1 := cell_regrown c_m1
  have q2 := cell_regrown c_m2
  have q3 := cell_regrown c_m3
  have q4 := cell_regrown c_m4
  have q5 := cell_regrown c_m5
  have q6 := cell_regrown c_m6
  have q7 := cell_regrown c_m7
  have q8 := cell_regrown c_m8
  have q9 := cell_regrown c_m9
  have q10 := cell_regrown c_m10
  have q11 := cell_regrown c_m11
  have q12 := cell_regrown c_m12
  have q13 := cell_regrown c_m13
  have q14 := cell_regrown c_m14
  have q15 := cell_regrown c_o0
  have q16 := cell_regrown c_o1
  have q17 := cell_regrown c_o2
  have q18 := cell_regrown c_o3
  have q19 := cell_regrown c_o4
  have q20 := cell_regrown c_o5
  have q21 := cell_regrown c_o6
  have q22 := cell_regrown c_o7
  have q23 := cell_regrown c_o8
  have q24 := cell_regrown c_o9
  have q25 := cell_regrown c_o10
  have q26 := cell_regrown c_o11
  have q27 := cell_regrown c_o12
  have q28 := cell_regrown c_o13
  have q29 := cell_regrown c_o14
  have q30 := cell_regrown c_n0
  have q31 := cell_regrown c_n1
  have q32 := cell_regrown c_n2
  have q33 := cell_regrown c_n3
  have q34 := cell_regrown c_n4
  have q35 := cell_regrown c_n5
  have q36 := cell_regrown c_n6
  have q37 := cell_regrown c_n7
  have q38 := cell_regrown c_n8
  have q39 := cell_regrown c_n9
  have q40 := cell_regrown c_n10
  have q41 := cell_regrown c_n11
  have q42 := cell_regrown c_n12
  have q43 := cell_regrown c_n13
  have q44 := cell_regrown c_n14
  have q45 := cell_regrown c_t0
  have q46 := cell_regrown c_t1
  have q47 := cell_regrown c_t2
  have q48 := cell_regrown c_t3
  have q49 := cell_regrown c_t4
  have q50 := cell_regrown c_t5
  have q51 := cell_regrown c_t6
  have q52 := cell_regrown c_t7
  have q53 := cell_regrown c_t8
  have q54 := cell_regrown c_t9
  have q55 := cell_regrown c_t10
  have q56 := cell_regrown c_t11
  have q57 := cell_regrown c_t12
  have q58 := cell_regrown c_t13
  have q59 := cell_regrown c_t14
  have q60 := cell_regrown c_x0
  have q61 := cell_regrown c_x1
  have q62 := cell_regrown c_x2
  have q63 := cell_regrown c_x3
  have q64 := cell_regrown c_x4
  have q65 := cell_regrown c_x5
  have q66 := cell_regrown c_x6
  have q67 := cell_regrown c_x7
  have q68 := cell_regrown c_x8
  have q69 := cell_regrown c_x9
  have q70 := cell_regrown c_x10
  have q71 := cell_regrown c_x11
  have q72 := cell_regrown c_x12
  have q73 := cell_regrown c_x13
  have q74 := cell_regrown c_x14
  have q75 := cell_regrown c_y0
  have q76 := cell_regrown c_y1
  have q77 := cell_regrown c_y2
  have q78 := cell_regrown c_y3
  have q79 := cell_regrown c_y4
  have q80 := cell_regrown c_y5
  have q81 := cell_regrown c_y6
  have q82 := cell_regrown c_y7
  have q83 := cell_regrown c_y8
  have q84 := cell_regrown c_y9
  have q85 := cell_regrown c_y10
  have q86 := cell_regrown c_y11
  have q87 := cell_regrown c_y12
  have q88 := cell_regrown c_y13
  have q89 := cell_regrown c_y14
  refine wp_region_quiet_below (by kernel_rfl) (by kernel_rfl) ?_
  (go_big_quiet_step (first | with_reducible exact K0.out _ _ | with_reducible exact K1.out _ _ | with_reducible exact K2.out _ _ | with_reducible exact K3.out _ _ | with_reducible exact K4.out _ _ | with_reducible exact K5.out _ _ | with_reducible exact K6.out _ _ | exact K0.out _ _ | exact K1.out _ _ | exact K2.out _ _ | exact K3.out _ _ | exact K4.out _ _ | exact K5.out _ _ | exact K6.out _ _))
  (go_big_quiet_step (first | with_reducible exact K0.out _ _ | with_reducible exact K1.out _ _ | with_reducible exact K2.out _ _ | with_reducible exact K3.out _ _ | with_reducible exact K4.out _ _ | with_reducible exact K5.out _ _ | with_reducible exact K6.out _ _ | exact K0.out _ _ | exact K1.out _ _ | exact K2.out _ _ | exact K3.out _ _ | exact K4.out _ _ | exact K5.out _ _ | exact K6.out _ _))
  (go_big_quiet_step (first | with_reducible exact K0.out _ _ | with_reducible exact K1.out _ _ | with_reducible exact K2.out _ _ | with_reducible exact K3.out _ _ | with_reducible exact K4.out _ _ | with_reducible exact K5.out _ _ | with_reducible exact K6.out _ _ | exact K0.out _ _ | exact K1.out _ _ | exact K2.out _ _ | exact K3.out _ _ | exact K4.out _ _ | exact K5.out _ _ | exact K6.out _ _))
  (go_big_quiet_step (first | with_reducible exact K0.out _ _ | with_reducible exact K1.out _ _ | with_reducible exact K2.out _ _ | with_reducible exact K3.out _ _ | with_reducible exact K4.out _ _ | with_reducible exact K5.out _ _ | with_reducible exact K6.out _ _ | exact K0.out _ _ | exact K1.out _ _ | exact K2.out _ _ | exact K3.out _ _ | exact K4.out _ _ | exact K5.out _ _ | exact K6.out _ _))
  (go_big_quiet_step (first | with_reducible exact K0.out _ _ | with_reducible exact K1.out _ _ | with_reducible exact K2.out _ _ | with_reducible exact K3.out _ _ | with_reducible exact K4.out _ _ | with_reducible exact K5.out _ _ | with_reducible exact K6.out _ _ | exact K0.out _ _ | exact K1.out _ _ | exact K2.out _ _ | exact K3.out _ _ | exact K4.out _ _ | exact K5.out _ _ | exact K6.out _ _))
  (go_big_quiet_step (first | with_reducible exact K0.out _ _ | with_reducible exact K1.out _ _ | with_reducible exact K2.out _ _ | with_reducible exact K3.out _ _ | with_reducible exact K4.out _ _ | with_reducible exact K5.out _ _ | with_reducible exact K6.out _ _ | exact K0.out _ _ | exact K1.out _ _ | exact K2.out _ _ | exact K3.out _ _ | exact K4.out _ _ | exact K5.out _ _ | exact K6.out _ _))
  as_aux_lemma =>
    (go_big_quiet_step (first | with_reducible exact K0.out _ _ | with_reducible exact K1.out _ _ | with_reducible exact K2.out _ _ | with_reducible exact K3.out _ _ | with_reducible exact K4.out _ _ | with_reducible exact K5.out _ _ | with_reducible exact K6.out _ _ | exact K0.out _ _ | exact K1.out _ _ | exact K2.out _ _ | exact K3.out _ _ | exact K4.out _ _ | exact K5.out _ _ | exact K6.out _ _))
    (go_big_quiet_step (first | with_reducible exact K0.out _ _ | with_reducible exact K1.out _ _ | with_reducible exact K2.out _ _ | with_reducible exact K3.out _ _ | with_reducible exact K4.out _ _ | with_reducible exact K5.out _ _ | with_reducible exact K6.out _ _ | exact K0.out _ _ | exact K1.out _ _ | exact K2.out _ _ | exact K3.out _ _ | exact K4.out _ _ | exact K5.out _ _ | exact K6.out _ _))
    (go_big_quiet_step (first | with_reducible exact K0.out _ _ | with_reducible exact K1.out _ _ | with_reducible exact K2.out _ _ | with_reducible exact K3.out _ _ | with_reducible exact K4.out _ _ | with_reducible exact K5.out _ _ | with_reducible exact K6.out _ _ | exact K0.out _ _ | exact K1.out _ _ | exact K2.out _ _ | exact K3.out _ _ | exact K4.out _ _ | exact K5.out _ _ | exact K6.out _ _))
    (go_big_quiet_step (first | with_reducible exact K0.out _ _ | with_reducible exact K1.out _ _ | with_reducible exact K2.out _ _ | with_reducible exact K3.out _ _ | with_reducible exact K4.out _ _ | with_reducible exact K5.out _ _ | with_reducible exact K6.out _ _ | exact K0.out _ _ | exact K1.out _ _ | exact K2.out _ _ | exact K3.out _ _ | exact K4.out _ _ | exact K5.out _ _ | exact K6.out _ _))
    (go_big_quiet_step (first | with_reducible exact K0.out _ _ | with_reducible exact K1.out _ _ | with_reducible exact K2.out _ _ | with_reducible exact K3.out _ _ | with_reducible exact K4.out _ _ | with_reducible exact K5.out _ _ | with_reducible exact K6.out _ _ | exact K0.out _ _ | exact K1.out _ _ | exact K2.out _ _ | exact K3.out _ _ | exact K4.out _ _ | exact K5.out _ _ | exact K6.out _ _))
    (go_big_quiet_step (first | with_reducible exact K0.out _ _ | with_reducible exact K1.out _ _ | with_reducible exact K2.out _ _ | with_reducible exact K3.out _ _ | with_reducible exact K4.out _ _ | with_reducible exact K5.out _ _ | with_reducible exact K6.out _ _ | exact K0.out _ _ | exact K1.out _ _ | exact K2.out _ _ | exact K3.out _ _ | exact K4.out _ _ | exact K5.out _ _ | exact K6.out _ _))
    as_aux_lemma =>
      (go_big_quiet_step (first | with_reducible exact K0.out _ _ | with_reducible exact K1.out _ _ | with_reducible exact K2.out _ _ | with_reducible exact K3.out _ _ | with_reducible exact K4.out _ _ | with_reducible exact K5.out _ _ | with_reducible exact K6.out _ _ | exact K0.out _ _ | exact K1.out _ _ | exact K2.out _ _ | exact K3.out _ _ | exact K4.out _ _ | exact K5.out _ _ | exact K6.out _ _))
      (go_big_quiet_step (first | with_reducible exact K0.out _ _ | with_reducible exact K1.out _ _ | with_reducible exact K2.out _ _ | with_reducible exact K3.out _ _ | with_reducible exact K4.out _ _ | with_reducible exact K5.out _ _ | with_reducible exact K6.out _ _ | exact K0.out _ _ | exact K1.out _ _ | exact K2.out _ _ | exact K3.out _ _ | exact K4.out _ _ | exact K5.out _ _ | exact K6.out _ _))
      (go_big_quiet_step (first | with_reducible exact K0.out _ _ | with_reducible exact K1.out _ _ | with_reducible exact K2.out _ _ | with_reducible exact K3.out _ _ | with_reducible exact K4.out _ _ | with_reducible exact K5.out _ _ | with_reducible exact K6.out _ _ | exact K0.out _ _ | exact K1.out _ _ | exact K2.out _ _ | exact K3.out _ _ | exact K4.out _ _ | exact K5.out _ _ | exact K6.out _ _))
      (go_big_quiet_step (first | with_reducible exact K0.out _ _ | with_reducible exact K1.out _ _ | with_reducible exact K2.out _ _ | with_reducible exact K3.out _ _ | with_reducible exact K4.out _ _ | with_reducible exact K5.out _ _ | with_reducible exact K6.out _ _ | exact K0.out _ _ | exact K1.out _ _ | exact K2.out _ _ | exact K3.out _ _ | exact K4.out _ _ | exact K5.out _ _ | exact K6.out _ _))
      (go_big_quiet_step (first | with_reducible exact K0.out _ _ | with_reducible exact K1.out _ _ | with_reducible exact K2.out _ _ | with_reducible exact K3.out _ _ | with_reducible exact K4.out _ _ | with_reducible exact K5.out _ _ | with_reducible exact K6.out _ _ | exact K0.out _ _ | exact K1.out _ _ | exact K2.out _ _ | exact K3.out _ _ | exact K4.out _ _ | exact K5.out _ _ | exact K6.out _ _))
      (go_big_quiet_step (first | with_reducible exact K0.out _ _ | with_reducible exact K1.out _ _ | with_reducible exact K2.out _ _ | with_reducible exact K3.out _ _ | with_reducible exact K4.out _ _ | with_reducible exact K5.out _ _ | with_reducible exact K6.out _ _ | exact K0.out _ _ | exact K1.out _ _ | exact K2.out _ _ | exact K3.out _ _ | exact K4.out _ _ | exact K5.out _ _ | exact K6.out _ _))
      as_aux_lemma =>
        (go_big_quiet_step (first | with_reducible exact K0.out _ _ | with_reducible exact K1.out _ _ | with_reducible exact K2.out _ _ | with_reducible exact K3.out _ _ | with_reducible exact K4.out _ _ | with_reducible exact K5.out _ _ | with_reducible exact K6.out _ _ | exact K0.out _ _ | exact K1.out _ _ | exact K2.out _ _ | exact K3.out _ _ | exact K4.out _ _ | exact K5.out _ _ | exact K6.out _ _))
        (go_big_quiet_step (first | with_reducible exact K0.out _ _ | with_reducible exact K1.out _ _ | with_reducible exact K2.out _ _ | with_reducible exact K3.out _ _ | with_reducible exact K4.out _ _ | with_reducible exact K5.out _ _ | with_reducible exact K6.out _ _ | exact K0.out _ _ | exact K1.out _ _ | exact K2.out _ _ | exact K3.out _ _ | exact K4.out _ _ | exact K5.out _ _ | exact K6.out _ _))
        (go_big_quiet_step (first | with_reducible exact K0.out _ _ | with_reducible exact K1.out _ _ | with_reducible exact K2.out _ _ | with_reducible exact K3.out _ _ | with_reducible exact K4.out _ _ | with_reducible exact K5.out _ _ | with_reducible exact K6.out _ _ | exact K0.out _ _ | exact K1.out _ _ | exact K2.out _ _ | exact K3.out _ _ | exact K4.out _ _ | exact K5.out _ _ | exact K6.out _ _))
        (go_big_quiet_step (first | with_reducible exact K0.out _ _ | with_reducible exact K1.out _ _ | with_reducible exact K2.out _ _ | with_reducible exact K3.out _ _ | with_reducible exact K4.out _ _ | with_reducible exact K5.out _ _ | with_reducible exact K6.out _ _ | exact K0.out _ _ | exact K1.out _ _ | exact K2.out _ _ | exact K3.out _ _ | exact K4.out _ _ | exact K5.out _ _ | exact K6.out _ _))
        (go_big_quiet_step (first | with_reducible exact K0.out _ _ | with_reducible exact K1.out _ _ | with_reducible exact K2.out _ _ | with_reducible exact K3.out _ _ | with_reducible exact K4.out _ _ | with_reducible exact K5.out _ _ | with_reducible exact K6.out _ _ | exact K0.out _ _ | exact K1.out _ _ | exact K2.out _ _ | exact K3.out _ _ | exact K4.out _ _ | exact K5.out _ _ | exact K6.out _ _))
        (go_big_quiet_step (first | with_reducible exact K0.out _ _ | with_reducible exact K1.out _ _ | with_reducible exact K2.out _ _ | with_reducible exact K3.out _ _ | with_reducible exact K4.out _ _ | with_reducible exact K5.out _ _ | with_reducible exact K6.out _ _ | exact K0.out _ _ | exact K1.out _ _ | exact K2.out _ _ | exact K3.out _ _ | exact K4.out _ _ | exact K5.out _ _ | exact K6.out _ _))
        as_aux_lemma =>
          (go_big_quiet_step (first | with_reducible exact K0.out _ _ | with_reducible exact K1.out _ _ | with_reducible exact K2.out _ _ | with_reducible exact K3.out _ _ | with_reducible exact K4.out _ _ | with_reducible exact K5.out _ _ | with_reducible exact K6.out _ _ | exact K0.out _ _ | exact K1.out _ _ | exact K2.out _ _ | exact K3.out _ _ | exact K4.out _ _ | exact K5.out _ _ | exact K6.out _ _))
          (go_big_quiet_step (first | with_reducible exact K0.out _ _ | with_reducible exact K1.out _ _ | with_reducible exact K2.out _ _ | with_reducible exact K3.out _ _ | with_reducible exact K4.out _ _ | with_reducible exact K5.out _ _ | with_reducible exact K6.out _ _ | exact K0.out _ _ | exact K1.out _ _ | exact K2.out _ _ | exact K3.out _ _ | exact K4.out _ _ | exact K5.out _ _ | exact K6.out _ _))
          (go_big_quiet_step (first | with_reducible exact K0.out _ _ | with_reducible exact K1.out _ _ | with_reducible exact K2.out _ _ | with_reducible exact K3.out _ _ | with_reducible exact K4.out _ _ | with_reducible exact K5.out _ _ | with_reducible exact K6.out _ _ | exact K0.out _ _ | exact K1.out _ _ | exact K2.out _ _ | exact K3.out _ _ | exact K4.out _ _ | exact K5.out _ _ | exact K6.out _ _))
          (go_big_quiet_step (first | with_reducible exact K0.out _ _ | with_reducible exact K1.out _ _ | with_reducible exact K2.out _ _ | with_reducible exact K3.out _ _ | with_reducible exact K4.out _ _ | with_reducible exact K5.out _ _ | with_reducible exact K6.out _ _ | exact K0.out _ _ | exact K1.out _ _ | exact K2.out _ _ | exact K3.out _ _ | exact K4.out _ _ | exact K5.out _ _ | exact K6.out _ _))
          (go_big_quiet_step (first | with_reducible exact K0.out _ _ | with_reducible exact K1.out _ _ | with_reducible exact K2.out _ _ | with_reducible exact K3.out _ _ | with_reducible exact K4.out _ _ | with_reducible exact K5.out _ _ | with_reducible exact K6.out _ _ | exact K0.out _ _ | exact K1.out _ _ | exact K2.out _ _ | exact K3.out _ _ | exact K4.out _ _ | exact K5.out _ _ | exact K6.out _ _))
          (go_big_quiet_step (first | with_reducible exact K0.out _ _ | with_reducible exact K1.out _ _ | with_reducible exact K2.out _ _ | with_reducible exact K3.out _ _ | with_reducible exact K4.out _ _ | with_reducible exact K5.out _ _ | with_reducible exact K6.out _ _ | exact K0.out _ _ | exact K1.out _ _ | exact K2.out _ _ | exact K3.out _ _ | exact K4.out _ _ | exact K5.out _ _ | exact K6.out _ _))
          as_aux_lemma =>
            (go_big_quiet_step (first | with_reducible exact K0.out _ _ | with_reducible exact K1.out _ _ | with_reducible exact K2.out _ _ | with_reducible exact K3.out _ _ | with_reducible exact K4.out _ _ | with_reducible exact K5.out _ _ | with_reducible exact K6.out _ _ | exact K0.out _ _ | exact K1.out _ _ | exact K2.out _ _ | exact K3.out _ _ | exact K4.out _ _ | exact K5.out _ _ | exact K6.out _ _))
            (go_big_quiet_step (first | with_reducible exact K0.out _ _ | with_reducible exact K1.out _ _ | with_reducible exact K2.out _ _ | with_reducible exact K3.out _ _ | with_reducible exact K4.out _ _ | with_reducible exact K5.out _ _ | with_reducible exact K6.out _ _ | exact K0.out _ _ | exact K1.out _ _ | exact K2.out _ _ | exact K3.out _ _ | exact K4.out _ _ | exact K5.out _ _ | exact K6.out _ _))
            (go_big_quiet_step (first | with_reducible exact K0.out _ _ | with_reducible exact K1.out _ _ | with_reducible exact K2.out _ _ | with_reducible exact K3.out _ _ | with_reducible exact K4.out _ _ | with_reducible exact K5.out _ _ | with_reducible exact K6.out _ _ | exact K0.out _ _ | exact K1.out _ _ | exact K2.out _ _ | exact K3.out _ _ | exact K4.out _ _ | exact K5.out _ _ | exact K6.out _ _))
            (go_big_quiet_step (first | with_reducible exact K0.out _ _ | with_reducible exact K1.out _ _ | with_reducible exact K2.out _ _ | with_reducible exact K3.out _ _ | with_reducible exact K4.out _ _ | with_reducible exact K5.out _ _ | with_reducible exact K6.out _ _ | exact K0.out _ _ | exact K1.out _ _ | exact K2.out _ _ | exact K3.out _ _ | exact K4.out _ _ | exact K5.out _ _ | exact K6.out _ _))
            (go_big_quiet_step (first | with_reducible exact K0.out _ _ | with_reducible exact K1.out _ _ | with_reducible exact K2.out _ _ | with_reducible exact K3.out _ _ | with_reducible exact K4.out _ _ | with_reducible exact K5.out _ _ | with_reducible exact K6.out _ _ | exact K0.out _ _ | exact K1.out _ _ | exact K2.out _ _ | exact K3.out _ _ | exact K4.out _ _ | exact K5.out _ _ | exact K6.out _ _))
            refine wpQuiet_nil ?_
            intro w' hw'
            obtain ⟨⟨dq, osq⟩, hw''⟩ := hw'
            exact ⟨⟨dq, osq, hw''⟩, _, _, _, _, _, _, _, _, _, _, _, _, _, _, _, _, _, _, _, _, _, _, _, _, _, _, _, _, _, _, _, _, _, _, rfl⟩
end Go.Proofs.YtmnlagmmbfjbeaaGreatDoor
