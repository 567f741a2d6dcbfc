/- This session's own text: the walk of the law FnShapes: where the facts of its plain functions hold it returns true and nothing that lay before has turned. No condition beyond those that the statement bears. -/
import Derived.Test.YtkbomfpebhjaoaaGreatDoorQFnShapesx0
import Derived.Test.YtkbomfpebhjaoaaGreatDoorQFnShapesx1
import Derived.Test.YtkbomfpebhjaoaaGreatDoorQFnShapesx2
import Derived.Test.YtkbomfpebhjaoaaGreatDoorQFnShapesx3
import Derived.Test.YtkbomfpebhjaoaaGreatDoorQFnShapesx4
import Derived.Test.YtkbomfpebhjaoaaGreatDoorQFnShapesx5
import Derived.Test.YtkbomfpebhjaoaaGreatDoorQFnShapesx6
import Derived.Test.YtkbomfpebhjaoaaGreatDoorQFnShapesx7
import Derived.Test.YtkbomfpebhjaoaaGreatDoorQFnShapesx8
import Derived.Test.YtkbomfpebhjaoaaGreatDoorQFnShapesx9
import Derived.Test.YtkbomfpebhjaoaaGreatDoorQFnShapesx10
import Derived.Test.YtkbomfpebhjaoaaGreatDoorQFnShapesx11
import Derived.Test.YtkbomfpebhjaoaaGreatDoorQFnShapesx12
import Derived.Test.YtkbomfpebhjaoaaGreatDoorQFnShapesx13
import Derived.Test.YtkbomfpebhjaoaaGreatDoorQFnShapesx14
namespace Go.Proofs.YtkbomfpebhjaoaaGreatDoor.QFnShapes
open Go.Proofs.YtkbomfpebhjaoaaGreatDoor.Short Go.RowKit Go.Proofs.YtkbomfpebhjaoaaGreatDoorW.PrintWords Go.Proofs.YtkbomfpebhjaoaaGreatDoorW.PrintLast Go.Proofs.YtkbomfpebhjaoaaGreatDoorW.PrintMore
set_option linter.unusedVariables false
set_option linter.unusedSimpArgs false
def laws_FnShapes.T12 : Bool × List (List Nat × List Nat) := (true, [([], []), ([], []), ([0, 1], [0, 1]), ([2], [2]), ([3], [3]), ([3], [3]), ([4, 5, 3, 3], [3, 4, 5]), ([6, 3], [3, 6]), ([3, 7], [3, 7]), ([8, 6], [8]), ([9], [9]), ([10, 9, 9], [9, 10]), ([9], [9]), ([12, 11, 9], [9, 12]), ([11, 13, 9], [9, 11, 13]), ([9, 14], [9, 14]), ([15, 13], [15]), ([16], [16]), ([17, 16, 16], [16, 17]), ([16], [16]), ([19, 18, 16], [16, 19]), ([18, 20, 16], [16, 18, 20]), ([16, 21], [16, 21]), ([22, 20], [22]), ([23], [23]), ([24, 23, 23], [23, 24]), ([23], [23]), ([26, 25, 23], [23, 26]), ([25, 27, 23], [23, 25, 27]), ([23, 28], [23, 28]), ([29, 27], [29]), ([30], [30]), ([31, 30, 30], [30, 31]), ([30], [30]), ([33, 32, 30], [30, 33]), ([32, 34, 30], [30, 32, 34]), ([30, 35], [30, 35]), ([36, 34], [36]), ([37], [37]), ([37], [37]), ([38, 39, 37, 37], [37, 38, 39]), ([37], [37]), ([37], [37]), ([41, 42, 40, 37], [37, 41, 42]), ([40, 43, 37], [37, 40, 43]), ([37, 44], [37, 44]), ([45, 43], [45]), ([46], [46]), ([46], [46]), ([47, 48, 46], [46, 47, 48]), ([46, 49], [46, 49]), ([50, 46], [50]), ([51], [51]), ([51], [51]), ([52, 53, 51, 51], [51, 52, 53]), ([54, 51], [51, 54]), ([51, 55], [51, 55]), ([56, 54], [56]), ([57], [57]), ([58, 57, 57], [57, 58]), ([57], [57]), ([60, 59, 57], [57, 60]), ([59, 61, 57], [57, 59, 61]), ([57, 62], [57, 62]), ([63, 61], [63]), ([64], [64]), ([65, 64, 64], [64, 65]), ([64], [64]), ([67, 66, 64], [64, 67]), ([66, 68, 64], [64, 66, 68]), ([64, 69], [64, 69])])
def laws_FnShapes.B12 : List Nat := [0, 0, 3, 7, 15, 15, 63, 127, 255, 511, 1023, 2047, 1023, 8191, 16383, 32767, 65535, 131071, 262143, 131071, 1048575, 2097151, 4194303, 8388607, 16777215, 33554431, 16777215, 134217727, 268435455, 536870911, 1073741823, 2147483647, 4294967295, 2147483647, 17179869183, 34359738367, 68719476735, 137438953471, 274877906943, 274877906943, 1099511627775, 274877906943, 274877906943, 8796093022207, 17592186044415, 35184372088831, 70368744177663, 140737488355327, 140737488355327, 562949953421311, 1125899906842623, 2251799813685247, 4503599627370495, 4503599627370495, 18014398509481983, 36028797018963967, 72057594037927935, 144115188075855871, 288230376151711743, 576460752303423487, 288230376151711743, 2305843009213693951, 4611686018427387903, 9223372036854775807, 18446744073709551615, 36893488147419103231, 73786976294838206463, 36893488147419103231, 295147905179352825855, 590295810358705651711, 1180591620717411303423]
theorem laws_FnShapes.tab12 : rtab .any (opsOf Tryz.f3 12) = laws_FnShapes.T12 := by kernel_rfl
theorem laws_FnShapes.bits12 : waitsOk laws_FnShapes.T12.2 laws_FnShapes.B12 = true := by kernel_rfl
def laws_FnShapes.T20 : Bool × List (List Nat × List Nat) := (true, [([], []), ([0], [0]), ([1], [1]), ([2, 1, 1], [1, 2]), ([1], [1]), ([4, 3, 1], [1, 4]), ([3, 5, 1], [1, 3, 5]), ([1, 6], [1, 6]), ([7, 5], [7]), ([8], [8]), ([9, 8, 8], [8, 9]), ([10], [10]), ([11, 10, 10], [10, 11]), ([10], [10]), ([13, 12, 10], [10, 13]), ([12, 14, 10], [10, 12, 14]), ([10, 15, 8], [8, 10, 15]), ([8, 16], [8, 16])])
def laws_FnShapes.B20 : List Nat := [0, 1, 3, 7, 3, 31, 63, 127, 255, 511, 1023, 2047, 4095, 2047, 16383, 32767, 65535, 131071]
theorem laws_FnShapes.tab20 : rtab .any (opsOf Tryz.f3 20) = laws_FnShapes.T20 := by kernel_rfl
theorem laws_FnShapes.bits20 : waitsOk laws_FnShapes.T20.2 laws_FnShapes.B20 = true := by kernel_rfl
def laws_FnShapes.T22 : Bool × List (List Nat × List Nat) := (true, [([], []), ([0], [0]), ([1], [1]), ([2, 1], [2]), ([3], [3]), ([4, 3, 3], [3, 4]), ([5], [5]), ([6, 5, 5], [5, 6]), ([5], [5]), ([8, 7, 5], [5, 8]), ([7, 9, 5], [5, 7, 9]), ([5], [5]), ([11, 9, 5], [5, 11]), ([12, 5], [5, 12]), ([10, 13, 5], [5, 10, 13]), ([5, 14, 3], [3, 5, 14]), ([3, 15], [3, 15]), ([16, 12, 0, 1, 2, 3, 4, 5, 6, 7, 8, 9, 10, 11, 12, 13, 14, 15, 16], [16])])
def laws_FnShapes.B22 : List Nat := [0, 1, 3, 7, 15, 31, 63, 127, 63, 511, 1023, 63, 3071, 7167, 16383, 32767, 65535, 131071]
theorem laws_FnShapes.tab22 : rtab .any (opsOf Tryz.f3 22) = laws_FnShapes.T22 := by kernel_rfl
theorem laws_FnShapes.bits22 : waitsOk laws_FnShapes.T22.2 laws_FnShapes.B22 = true := by kernel_rfl
def laws_FnShapes.ok (k : Nat) (l0 : List Int) : Prop := laws_big.f l0 = some true ∨ ∃ (ls0 ls1 lu0 lu1 lh0 lh1 lr0 lr1 la0 la1 lb0 lb1 lx0 lx1 lz0 lz1 lv0 lv1 lq0 lq1 : List Int) (t tx : ByteArray) (bu bh bv br be bx bs bf bw : Bool) (g c : Int), laws_big.f l0 = some false ∧ spec_DrawTurnShape.f k l0 = some (ls0, ls1) ∧ impl_TurnShape.f k ls0 ls1 = some (lu0, lu1, bu) ∧ spec_TurnShape.f k ls0 ls1 = some (lu0, lu1, bu) ∧ spec_DrawIsHorizontalStrip.f k l0 = some (lh0, lh1) ∧ spec_DrawIsRibbon.f k l0 = some (lr0, lr1) ∧ spec_DrawEqualShape.f k l0 = some (la0, la1, lb0, lb1) ∧ spec_DrawParseShape.f k l0 = some t ∧ impl_ParseShape.f k t = some (lx0, lx1, bx) ∧ spec_ParseShape.f k t = some (lx0, lx1, bx) ∧ spec_EqualShape.f k lu0 lu1 lu0 lu1 = some true ∧ impl_IsHorizontalStrip.f k lh0 lh1 = some bh ∧ spec_IsHorizontalStrip.f k lh0 lh1 = some bh ∧ impl_IsVerticalStrip.f k lh0 lh1 = some bv ∧ spec_IsVerticalStrip.f k lh0 lh1 = some bv ∧ impl_IsRibbon.f k lr0 lr1 = some br ∧ spec_IsRibbon.f k lr0 lr1 = some br ∧ impl_RibbonHeight.f k lr0 lr1 = some g ∧ spec_RibbonHeight.f k lr0 lr1 = some g ∧ impl_EqualShape.f k la0 la1 lb0 lb1 = some be ∧ spec_EqualShape.f k la0 la1 lb0 lb1 = some be ∧ spec_EqualShape.f k lx0 lx1 lx0 lx1 = some true ∧ impl_IsShape.f k ls0 ls1 = some bs ∧ spec_IsShape.f k ls0 ls1 = some bs ∧ impl_CellCount.f k ls0 ls1 = some c ∧ spec_CellCount.f k ls0 ls1 = some c ∧ impl_ShapeText.f k ls0 ls1 = some tx ∧ impl_ParseShape.f k tx = some (lz0, lz1, bs) ∧ spec_ShapeText.f k ls0 ls1 = some tx ∧ (bs = true → spec_EqualShape.f k lz0 lz1 ls0 ls1 = some true) ∧ spec_TurnShape.f k lr0 lr1 = some (lv0, lv1, bf) ∧ spec_TurnShape.f k lh0 lh1 = some (lq0, lq1, bw) ∧ (bf = true → impl_IsRibbon.f k lv0 lv1 = some br) ∧ (bw = true → impl_IsVerticalStrip.f k lq0 lq1 = some bh) ∧ (br = true → bf = true ∧ ∃ g2 c2 : Int, impl_RibbonHeight.f k lv0 lv1 = some g2 ∧ impl_CellCount.f k lr0 lr1 = some c2 ∧ wrap64 (g + g2) = wrap64 (c2 - 1))
theorem drawn_below {w w' : World} (h : Drawn0 w w') : Below w.heap.size w w' := by
  obtain ⟨n, rfl⟩ := h
  exact pw_below_drewN (Below.refl _ _) n
theorem lm {p : Prop} (h : p := by ((try simp only [List.map_toArray, List.map_cons, List.map_nil]); first | done | rfl | (simp only [List.length_drop, List.length_take]; rfl))) : p := h
section
variable {P : Program} {md : Region.Mode} {ops : Array Oper} {Q : Exit → Act → World → Prop} {S : World → Prop} {ds : List Nat}
theorem pure2 (i N : Nat) {fuel : Nat} {l : Array Bool} {a : Act} {w : World} (l' : Array Bool) (hc : anyB md ops l l' i = true) {oi : Oper} {a' : Act} (h : wpAnyLast P md ops Q S ds fuel l' a' w)
    (hi : ops[i]? = some oi := by rfl) (hN : oi.dst = some N := by rfl) (hQ : ∀ c a w, Q (.panic c) (a.put oi.dst undef) w → Q (.panic c) a w := by exact fun _ _ _ h => h)
    (hy : Yields P ops oi undef a := by (exact (Or.inr ⟨by rfl, by rfl⟩)))
    (ha : a.put (some N) undef = a' := by (simp only [Act.put, List.setIfInBounds_toArray, List.set_cons_zero, List.set_cons_succ, i64_w, i32_w]; rfl)) :
    wpAnyLast P md ops Q S ds (fuel + 1) l a w := pure_ l' hi hN hc hQ hy ha h
theorem take1 (i N : Nat) (v : Value) {fuel : Nat} {l : Array Bool} {a : Act} {w : World} (l' : Array Bool) (hc : takeB md ops ds l l' i = true) (hS : S w) {oi : Oper} {a' : Act} (hi : ops[i]? = some oi)
    (hy : ∀ w', S w' → (execOp a.eval oi).run P w' = .ok (.value v) w') (h : wpAnyLast P md ops Q S ds fuel l' a' w)
    (hw : Region.wanted oi (yielded ops a.tmps) = true := by rfl) (hN : oi.dst = some N := by rfl) (hQ : ∀ c a w, Q (.panic c) (a.put oi.dst v) w → Q (.panic c) a w := by exact fun _ _ _ h => h)
    (ha : a.put (some N) v = a' := by (simp only [Act.put, List.setIfInBounds_toArray, List.set_cons_zero, List.set_cons_succ, i64_w, i32_w]; rfl)) :
    wpAnyLast P md ops Q S ds (fuel + 1) l a w := take_ l' hi hN hc hQ (Or.inl ⟨hw, hy⟩) hS ha h
end

set_option maxHeartbeats 16000000 in
set_option maxRecDepth 100000 in
theorem laws_FnShapes.calls (k : Nat) (A0 : Option Addr) (c0 : Nat) (l0 : List Int) (w : World) (hr0 : Kd.C (Kd.int .u8) w A0 l0.length l0) (hc0 : l0.length ≤ c0) (ht : Tabs w) (h : laws_FnShapes.ok k l0) :
    Calls Tryz.prog 3 #[.slice A0 l0.length c0] w fun e w' => e = .returned (.bool true) ∧ Below w.heap.size w w' := by
  have hu26 := Tryz.underlying26
  have HT := Aside0.mk ht
  have HR0 := Aside0.mk hr0
  have HC0 := Aside0.mk hc0
  have BW := Aside0.mk (Below.refl w.heap.size w)
  clear ht hr0 hc0
  rcases h with d0 | ⟨ls0, ls1, lu0, lu1, lh0, lh1, lr0, lr1, la0, la1, lb0, lb1, lx0, lx1, lz0, lz1, lv0, lv1, lq0, lq1, t, tx, bu, bh, bv, br, be, bx, bs, bf, bw, g, c, d0, d1, d2, d3, d4, d5, d6, d7, d8, d9, e1, h1, h2, v1, v2, r1, r2, g1, g2, q1, q2, e2, s1, s2, c1, c2, t1, t2, t3, t5, w1, w2, w3, w4, z1⟩
  · have D0 := Aside0.mk d0
    clear d0
    go_enter Tryz.func3, Tryz.ntmps3
    go_wp2_with fail
    refine (laws_big.calls _ _ l0 true _ HR0.out HC0.out D0.out).mono ?_
    rintro e w1 ⟨rfl, hd_⟩
    have b := drawn_below hd_
    clear hd_
    go_wp2_with fail
    go_ret
    exact ⟨rfl, b⟩
  · skip
    have D0 := Aside0.mk d0
    have D1 := Aside0.mk d1
    have D2 := Aside0.mk d2
    have D3 := Aside0.mk d3
    have D4 := Aside0.mk d4
    have D5 := Aside0.mk d5
    have D6 := Aside0.mk d6
    have D7 := Aside0.mk d7
    have D8 := Aside0.mk d8
    have D9 := Aside0.mk d9
    have E1 := Aside0.mk e1
    have H1 := Aside0.mk h1
    have H2 := Aside0.mk h2
    have V1 := Aside0.mk v1
    have V2 := Aside0.mk v2
    have R1 := Aside0.mk r1
    have R2 := Aside0.mk r2
    have G1 := Aside0.mk g1
    have G2 := Aside0.mk g2
    have Q1 := Aside0.mk q1
    have Q2 := Aside0.mk q2
    have E2 := Aside0.mk e2
    have S1 := Aside0.mk s1
    have S2 := Aside0.mk s2
    have C1 := Aside0.mk c1
    have C2 := Aside0.mk c2
    have T1 := Aside0.mk t1
    have T2 := Aside0.mk t2
    have T3 := Aside0.mk t3
    have T5 := Aside0.mk t5
    have W1 := Aside0.mk w1
    have W2 := Aside0.mk w2
    have W3 := Aside0.mk w3
    have W4 := Aside0.mk w4
    have Z1 := Aside0.mk z1
    clear d0 d1 d2 d3 d4 d5 d6 d7 d8 d9 e1 h1 h2 v1 v2 r1 r2 g1 g2 q1 q2 e2 s1 s2 c1 c2 t1 t2 t3 t5 w1 w2 w3 w4 z1
    have hbu : (bu != bu) = false := by simp
    have hbh : (bh != bh) = false := by simp
    have hbv : (bv != bv) = false := by simp
    have hbr : (br != br) = false := by simp
    have hbe : (be != be) = false := by simp
    have hbx : (bx != bx) = false := by simp
    have hbs : (bs != bs) = false := by simp
    have hg0 : (g != g) = false := by simp
    have hg1 : (g == g) = true := by simp
    have hc0 : (c != c) = false := by simp
    have hc1 : (c == c) = true := by simp
    have htx0 : (tx.toList == tx.toList) = true := by simp
    have htx1 : (tx.toList != tx.toList) = false := by simp
    go_enter Tryz.func3, Tryz.ntmps3
    go_wp2_with fail
    refine (laws_big.calls _ _ l0 false _ HR0.out HC0.out D0.out).mono ?_
    rintro e w1 ⟨rfl, hd_⟩
    have b := drawn_below hd_
    clear hd_
    have HB_w1 := Aside0.mk b
    clear b
    go_wp2_with fail
    refine (spec_DrawTurnShape.calls k _ _ l0 ls0 ls1 _ (Kd.C_below HR0.out HB_w1.out) HC0.out D1.out).mono ?_
    rintro e w2 ⟨v_s0, v_s1, rfl, r_s0, r_s1, b⟩
    have bb := below_then HB_w1.out HB_w1.out.size b
    replace HR0 := Aside0.mk (Kd.C_below HR0.out bb)
    replace BW := Aside0.mk (below_then BW.out BW.out.size bb)
    clear bb HB_w1
    obtain ⟨A_s0, c_s0, rfl⟩ := Kd.R_slice r_s0
    have C_s0 := Aside0.mk (Kd.R_reads' r_s0).2.2
    have L_s0 := Aside0.mk (Kd.R_reads' r_s0).2.1
    obtain ⟨A_s1, c_s1, rfl⟩ := Kd.R_slice r_s1
    have C_s1 := Aside0.mk (Kd.R_reads' r_s1).2.2
    have L_s1 := Aside0.mk (Kd.R_reads' r_s1).2.1
    clear b r_s0 r_s1
    go_wp2_with fail
    refine (impl_TurnShape.calls k _ _ ls0 _ _ ls1 lu0 lu1 bu _ (Kd.C_below C_s0.out (below_alloc (Below.refl _ w2) (.cells #[.slice A_s0 ls0.length c_s0, .slice A_s1 ls1.length c_s1] 26 (0, 0)))) L_s0.out (Kd.C_below C_s1.out (below_alloc (Below.refl _ w2) (.cells #[.slice A_s0 ls0.length c_s0, .slice A_s1 ls1.length c_s1] 26 (0, 0)))) L_s1.out D2.out).mono ?_
    rintro e w3 ⟨v_u0, v_u1, rfl, r_u0, r_u1, b⟩
    have bb := below_then (below_alloc (Below.refl _ w2) (.cells #[.slice A_s0 ls0.length c_s0, .slice A_s1 ls1.length c_s1] 26 (0, 0))) (below_alloc (Below.refl _ w2) (.cells #[.slice A_s0 ls0.length c_s0, .slice A_s1 ls1.length c_s1] 26 (0, 0))).size b
    replace HR0 := Aside0.mk (Kd.C_below HR0.out bb)
    replace C_s0 := Aside0.mk (Kd.C_below C_s0.out bb)
    replace C_s1 := Aside0.mk (Kd.C_below C_s1.out bb)
    have K_s := Aside0.mk (blk_below (blk_new w2 (.cells #[.slice A_s0 ls0.length c_s0, .slice A_s1 ls1.length c_s1] 26 (0, 0))) b)
    replace BW := Aside0.mk (below_then BW.out BW.out.size bb)
    clear bb
    obtain ⟨A_u0, c_u0, rfl⟩ := Kd.R_slice r_u0
    have C_u0 := Aside0.mk (Kd.R_reads' r_u0).2.2
    have L_u0 := Aside0.mk (Kd.R_reads' r_u0).2.1
    obtain ⟨A_u1, c_u1, rfl⟩ := Kd.R_slice r_u1
    have C_u1 := Aside0.mk (Kd.R_reads' r_u1).2.2
    have L_u1 := Aside0.mk (Kd.R_reads' r_u1).2.1
    clear b r_u0 r_u1
    have hc_s0 : w3.cell? ⟨w2.heap.size, 0, none⟩ = some (.slice A_s0 ls0.length c_s0) := (blk_cell K_s.out 0).trans rfl
    have hf_s0 := blk_frozen K_s.out 0
    have hc_s1 : w3.cell? ⟨w2.heap.size, 1, none⟩ = some (.slice A_s1 ls1.length c_s1) := (blk_cell K_s.out 1).trans rfl
    have hf_s1 := blk_frozen K_s.out 1
    have hl_s : w2.heap.size < w3.heap.size := blk_lt K_s.out
    go_wp2_with fail
    refine (spec_TurnShape.calls k _ _ ls0 _ _ ls1 lu0 lu1 bu _ (Kd.C_below C_s0.out (below_alloc (Below.refl _ w3) (.cells #[.slice A_u0 lu0.length c_u0, .slice A_u1 lu1.length c_u1] 26 (0, 0)))) L_s0.out (Kd.C_below C_s1.out (below_alloc (Below.refl _ w3) (.cells #[.slice A_u0 lu0.length c_u0, .slice A_u1 lu1.length c_u1] 26 (0, 0)))) L_s1.out D3.out).mono ?_
    rintro e w4 ⟨v_n0, v_n1, rfl, r_n0, r_n1, b⟩
    clear hc_s0 hf_s0 hc_s1 hf_s1 hl_s
    have bb := below_then (below_alloc (Below.refl _ w3) (.cells #[.slice A_u0 lu0.length c_u0, .slice A_u1 lu1.length c_u1] 26 (0, 0))) (below_alloc (Below.refl _ w3) (.cells #[.slice A_u0 lu0.length c_u0, .slice A_u1 lu1.length c_u1] 26 (0, 0))).size b
    replace HR0 := Aside0.mk (Kd.C_below HR0.out bb)
    replace C_s0 := Aside0.mk (Kd.C_below C_s0.out bb)
    replace C_s1 := Aside0.mk (Kd.C_below C_s1.out bb)
    replace C_u0 := Aside0.mk (Kd.C_below C_u0.out bb)
    replace C_u1 := Aside0.mk (Kd.C_below C_u1.out bb)
    replace K_s := Aside0.mk (blk_below K_s.out bb)
    have K_u := Aside0.mk (blk_below (blk_new w3 (.cells #[.slice A_u0 lu0.length c_u0, .slice A_u1 lu1.length c_u1] 26 (0, 0))) b)
    replace BW := Aside0.mk (below_then BW.out BW.out.size bb)
    clear bb
    obtain ⟨A_n0, c_n0, rfl⟩ := Kd.R_slice r_n0
    have C_n0 := Aside0.mk (Kd.R_reads' r_n0).2.2
    have L_n0 := Aside0.mk (Kd.R_reads' r_n0).2.1
    obtain ⟨A_n1, c_n1, rfl⟩ := Kd.R_slice r_n1
    have C_n1 := Aside0.mk (Kd.R_reads' r_n1).2.2
    have L_n1 := Aside0.mk (Kd.R_reads' r_n1).2.1
    clear b r_n0 r_n1
    go_wp2_with fail
    refine (spec_DrawIsHorizontalStrip.calls k _ _ l0 lh0 lh1 _ (Kd.C_below HR0.out (below_alloc (Below.refl _ w4) (.cells #[.slice A_n0 lu0.length c_n0, .slice A_n1 lu1.length c_n1] 26 (0, 0)))) HC0.out D4.out).mono ?_
    rintro e w5 ⟨v_h0, v_h1, rfl, r_h0, r_h1, b⟩
    have bb := below_then (below_alloc (Below.refl _ w4) (.cells #[.slice A_n0 lu0.length c_n0, .slice A_n1 lu1.length c_n1] 26 (0, 0))) (below_alloc (Below.refl _ w4) (.cells #[.slice A_n0 lu0.length c_n0, .slice A_n1 lu1.length c_n1] 26 (0, 0))).size b
    replace HR0 := Aside0.mk (Kd.C_below HR0.out bb)
    replace C_s0 := Aside0.mk (Kd.C_below C_s0.out bb)
    replace C_s1 := Aside0.mk (Kd.C_below C_s1.out bb)
    replace C_u0 := Aside0.mk (Kd.C_below C_u0.out bb)
    replace C_u1 := Aside0.mk (Kd.C_below C_u1.out bb)
    replace C_n0 := Aside0.mk (Kd.C_below C_n0.out bb)
    replace C_n1 := Aside0.mk (Kd.C_below C_n1.out bb)
    replace K_s := Aside0.mk (blk_below K_s.out bb)
    replace K_u := Aside0.mk (blk_below K_u.out bb)
    have K_n := Aside0.mk (blk_below (blk_new w4 (.cells #[.slice A_n0 lu0.length c_n0, .slice A_n1 lu1.length c_n1] 26 (0, 0))) b)
    replace BW := Aside0.mk (below_then BW.out BW.out.size bb)
    clear bb
    obtain ⟨A_h0, c_h0, rfl⟩ := Kd.R_slice r_h0
    have C_h0 := Aside0.mk (Kd.R_reads' r_h0).2.2
    have L_h0 := Aside0.mk (Kd.R_reads' r_h0).2.1
    obtain ⟨A_h1, c_h1, rfl⟩ := Kd.R_slice r_h1
    have C_h1 := Aside0.mk (Kd.R_reads' r_h1).2.2
    have L_h1 := Aside0.mk (Kd.R_reads' r_h1).2.1
    clear b r_h0 r_h1
    go_wp2_with fail
    refine (spec_DrawIsRibbon.calls k _ _ l0 lr0 lr1 _ (Kd.C_below HR0.out (below_alloc (Below.refl _ w5) (.cells #[.slice A_h0 lh0.length c_h0, .slice A_h1 lh1.length c_h1] 26 (0, 0)))) HC0.out D5.out).mono ?_
    rintro e w6 ⟨v_r0, v_r1, rfl, r_r0, r_r1, b⟩
    have bb := below_then (below_alloc (Below.refl _ w5) (.cells #[.slice A_h0 lh0.length c_h0, .slice A_h1 lh1.length c_h1] 26 (0, 0))) (below_alloc (Below.refl _ w5) (.cells #[.slice A_h0 lh0.length c_h0, .slice A_h1 lh1.length c_h1] 26 (0, 0))).size b
    replace HR0 := Aside0.mk (Kd.C_below HR0.out bb)
    replace C_s0 := Aside0.mk (Kd.C_below C_s0.out bb)
    replace C_s1 := Aside0.mk (Kd.C_below C_s1.out bb)
    replace C_u0 := Aside0.mk (Kd.C_below C_u0.out bb)
    replace C_u1 := Aside0.mk (Kd.C_below C_u1.out bb)
    replace C_n0 := Aside0.mk (Kd.C_below C_n0.out bb)
    replace C_n1 := Aside0.mk (Kd.C_below C_n1.out bb)
    replace C_h0 := Aside0.mk (Kd.C_below C_h0.out bb)
    replace C_h1 := Aside0.mk (Kd.C_below C_h1.out bb)
    replace K_s := Aside0.mk (blk_below K_s.out bb)
    replace K_u := Aside0.mk (blk_below K_u.out bb)
    replace K_n := Aside0.mk (blk_below K_n.out bb)
    have K_h := Aside0.mk (blk_below (blk_new w5 (.cells #[.slice A_h0 lh0.length c_h0, .slice A_h1 lh1.length c_h1] 26 (0, 0))) b)
    replace BW := Aside0.mk (below_then BW.out BW.out.size bb)
    clear bb
    obtain ⟨A_r0, c_r0, rfl⟩ := Kd.R_slice r_r0
    have C_r0 := Aside0.mk (Kd.R_reads' r_r0).2.2
    have L_r0 := Aside0.mk (Kd.R_reads' r_r0).2.1
    obtain ⟨A_r1, c_r1, rfl⟩ := Kd.R_slice r_r1
    have C_r1 := Aside0.mk (Kd.R_reads' r_r1).2.2
    have L_r1 := Aside0.mk (Kd.R_reads' r_r1).2.1
    clear b r_r0 r_r1
    go_wp2_with fail
    -- two boxes
    refine (spec_DrawEqualShape.calls k _ _ l0 la0 la1 lb0 lb1 _ (Kd.C_below HR0.out (below_alloc (Below.refl _ w6) (.cells #[.slice A_r0 lr0.length c_r0, .slice A_r1 lr1.length c_r1] 26 (0, 0)))) HC0.out D6.out).mono ?_
    rintro e w7 ⟨v_a0, v_a1, v_b0, v_b1, rfl, r_a0, r_a1, r_b0, r_b1, b⟩
    have bb := below_then (below_alloc (Below.refl _ w6) (.cells #[.slice A_r0 lr0.length c_r0, .slice A_r1 lr1.length c_r1] 26 (0, 0))) (below_alloc (Below.refl _ w6) (.cells #[.slice A_r0 lr0.length c_r0, .slice A_r1 lr1.length c_r1] 26 (0, 0))).size b
    replace HR0 := Aside0.mk (Kd.C_below HR0.out bb)
    replace C_s0 := Aside0.mk (Kd.C_below C_s0.out bb)
    replace C_s1 := Aside0.mk (Kd.C_below C_s1.out bb)
    replace C_u0 := Aside0.mk (Kd.C_below C_u0.out bb)
    replace C_u1 := Aside0.mk (Kd.C_below C_u1.out bb)
    replace C_n0 := Aside0.mk (Kd.C_below C_n0.out bb)
    replace C_n1 := Aside0.mk (Kd.C_below C_n1.out bb)
    replace C_h0 := Aside0.mk (Kd.C_below C_h0.out bb)
    replace C_h1 := Aside0.mk (Kd.C_below C_h1.out bb)
    replace C_r0 := Aside0.mk (Kd.C_below C_r0.out bb)
    replace C_r1 := Aside0.mk (Kd.C_below C_r1.out bb)
    replace K_s := Aside0.mk (blk_below K_s.out bb)
    replace K_u := Aside0.mk (blk_below K_u.out bb)
    replace K_n := Aside0.mk (blk_below K_n.out bb)
    replace K_h := Aside0.mk (blk_below K_h.out bb)
    have K_r := Aside0.mk (blk_below (blk_new w6 (.cells #[.slice A_r0 lr0.length c_r0, .slice A_r1 lr1.length c_r1] 26 (0, 0))) b)
    replace BW := Aside0.mk (below_then BW.out BW.out.size bb)
    clear bb
    obtain ⟨A_a0, c_a0, rfl⟩ := Kd.R_slice r_a0
    have C_a0 := Aside0.mk (Kd.R_reads' r_a0).2.2
    have L_a0 := Aside0.mk (Kd.R_reads' r_a0).2.1
    obtain ⟨A_a1, c_a1, rfl⟩ := Kd.R_slice r_a1
    have C_a1 := Aside0.mk (Kd.R_reads' r_a1).2.2
    have L_a1 := Aside0.mk (Kd.R_reads' r_a1).2.1
    obtain ⟨A_b0, c_b0, rfl⟩ := Kd.R_slice r_b0
    have C_b0 := Aside0.mk (Kd.R_reads' r_b0).2.2
    have L_b0 := Aside0.mk (Kd.R_reads' r_b0).2.1
    obtain ⟨A_b1, c_b1, rfl⟩ := Kd.R_slice r_b1
    have C_b1 := Aside0.mk (Kd.R_reads' r_b1).2.2
    have L_b1 := Aside0.mk (Kd.R_reads' r_b1).2.1
    clear b r_a0 r_a1 r_b0 r_b1
    go_wp2_with fail
    refine (spec_DrawParseShape.calls k _ _ l0 t _ (Kd.C_below HR0.out (below_alloc (below_alloc (Below.refl _ w7) (.cells #[.slice A_a0 la0.length c_a0, .slice A_a1 la1.length c_a1] 26 (0, 0))) (.cells #[.slice A_b0 lb0.length c_b0, .slice A_b1 lb1.length c_b1] 26 (0, 0)))) HC0.out D7.out).mono ?_
    rintro e w8 ⟨rfl, b⟩
    have bb := below_then (below_alloc (below_alloc (Below.refl _ w7) (.cells #[.slice A_a0 la0.length c_a0, .slice A_a1 la1.length c_a1] 26 (0, 0))) (.cells #[.slice A_b0 lb0.length c_b0, .slice A_b1 lb1.length c_b1] 26 (0, 0))) (below_alloc (below_alloc (Below.refl _ w7) (.cells #[.slice A_a0 la0.length c_a0, .slice A_a1 la1.length c_a1] 26 (0, 0))) (.cells #[.slice A_b0 lb0.length c_b0, .slice A_b1 lb1.length c_b1] 26 (0, 0))).size b
    replace HR0 := Aside0.mk (Kd.C_below HR0.out bb)
    replace C_s0 := Aside0.mk (Kd.C_below C_s0.out bb)
    replace C_s1 := Aside0.mk (Kd.C_below C_s1.out bb)
    replace C_u0 := Aside0.mk (Kd.C_below C_u0.out bb)
    replace C_u1 := Aside0.mk (Kd.C_below C_u1.out bb)
    replace C_n0 := Aside0.mk (Kd.C_below C_n0.out bb)
    replace C_n1 := Aside0.mk (Kd.C_below C_n1.out bb)
    replace C_h0 := Aside0.mk (Kd.C_below C_h0.out bb)
    replace C_h1 := Aside0.mk (Kd.C_below C_h1.out bb)
    replace C_r0 := Aside0.mk (Kd.C_below C_r0.out bb)
    replace C_r1 := Aside0.mk (Kd.C_below C_r1.out bb)
    replace C_a0 := Aside0.mk (Kd.C_below C_a0.out bb)
    replace C_a1 := Aside0.mk (Kd.C_below C_a1.out bb)
    replace C_b0 := Aside0.mk (Kd.C_below C_b0.out bb)
    replace C_b1 := Aside0.mk (Kd.C_below C_b1.out bb)
    replace K_s := Aside0.mk (blk_below K_s.out bb)
    replace K_u := Aside0.mk (blk_below K_u.out bb)
    replace K_n := Aside0.mk (blk_below K_n.out bb)
    replace K_h := Aside0.mk (blk_below K_h.out bb)
    replace K_r := Aside0.mk (blk_below K_r.out bb)
    have K_a := Aside0.mk (blk_below (blk_alloc (blk_new w7 (.cells #[.slice A_a0 la0.length c_a0, .slice A_a1 la1.length c_a1] 26 (0, 0))) (.cells #[.slice A_b0 lb0.length c_b0, .slice A_b1 lb1.length c_b1] 26 (0, 0))) b)
    have K_b : Aside0 (w8.heap[(w7.heap.size + 1)]? = some (.cells #[.slice A_b0 lb0.length c_b0, .slice A_b1 lb1.length c_b1] 26 (0, 0))) := ⟨by have h_ := blk_below (blk_new (w7.alloc (.cells #[.slice A_a0 la0.length c_a0, .slice A_a1 la1.length c_a1] 26 (0, 0))) (.cells #[.slice A_b0 lb0.length c_b0, .slice A_b1 lb1.length c_b1] 26 (0, 0))) b; have e_ : (w7.alloc (.cells #[.slice A_a0 la0.length c_a0, .slice A_a1 la1.length c_a1] 26 (0, 0))).heap.size = w7.heap.size + 1 := Array.size_push ..; rwa [e_] at h_⟩
    replace BW := Aside0.mk (below_then BW.out BW.out.size bb)
    clear bb
    clear b
    go_wp2_with fail
    refine (impl_ParseShape.calls k t lx0 lx1 bx _ (HT.out.below BW.out) D8.out).mono ?_
    rintro e w9 ⟨v_x0, v_x1, rfl, r_x0, r_x1, b⟩
    have bb := b
    replace HR0 := Aside0.mk (Kd.C_below HR0.out bb)
    replace C_s0 := Aside0.mk (Kd.C_below C_s0.out bb)
    replace C_s1 := Aside0.mk (Kd.C_below C_s1.out bb)
    replace C_u0 := Aside0.mk (Kd.C_below C_u0.out bb)
    replace C_u1 := Aside0.mk (Kd.C_below C_u1.out bb)
    replace C_n0 := Aside0.mk (Kd.C_below C_n0.out bb)
    replace C_n1 := Aside0.mk (Kd.C_below C_n1.out bb)
    replace C_h0 := Aside0.mk (Kd.C_below C_h0.out bb)
    replace C_h1 := Aside0.mk (Kd.C_below C_h1.out bb)
    replace C_r0 := Aside0.mk (Kd.C_below C_r0.out bb)
    replace C_r1 := Aside0.mk (Kd.C_below C_r1.out bb)
    replace C_a0 := Aside0.mk (Kd.C_below C_a0.out bb)
    replace C_a1 := Aside0.mk (Kd.C_below C_a1.out bb)
    replace C_b0 := Aside0.mk (Kd.C_below C_b0.out bb)
    replace C_b1 := Aside0.mk (Kd.C_below C_b1.out bb)
    replace K_s := Aside0.mk (blk_below K_s.out bb)
    replace K_u := Aside0.mk (blk_below K_u.out bb)
    replace K_n := Aside0.mk (blk_below K_n.out bb)
    replace K_h := Aside0.mk (blk_below K_h.out bb)
    replace K_r := Aside0.mk (blk_below K_r.out bb)
    replace K_a := Aside0.mk (blk_below K_a.out bb)
    replace K_b := Aside0.mk (blk_below K_b.out bb)
    replace BW := Aside0.mk (below_then BW.out BW.out.size bb)
    clear bb
    obtain ⟨A_x0, c_x0, rfl⟩ := Kd.R_slice r_x0
    have C_x0 := Aside0.mk (Kd.R_reads' r_x0).2.2
    have L_x0 := Aside0.mk (Kd.R_reads' r_x0).2.1
    obtain ⟨A_x1, c_x1, rfl⟩ := Kd.R_slice r_x1
    have C_x1 := Aside0.mk (Kd.R_reads' r_x1).2.2
    have L_x1 := Aside0.mk (Kd.R_reads' r_x1).2.1
    clear b r_x0 r_x1
    go_wp2_with fail
    refine (spec_ParseShape.calls k t lx0 lx1 bx _ D9.out).mono ?_
    rintro e w10 ⟨v_y0, v_y1, rfl, r_y0, r_y1, b⟩
    have bb := below_then (below_alloc (Below.refl _ w9) (.cells #[.slice A_x0 lx0.length c_x0, .slice A_x1 lx1.length c_x1] 26 (0, 0))) (below_alloc (Below.refl _ w9) (.cells #[.slice A_x0 lx0.length c_x0, .slice A_x1 lx1.length c_x1] 26 (0, 0))).size b
    replace HR0 := Aside0.mk (Kd.C_below HR0.out bb)
    replace C_s0 := Aside0.mk (Kd.C_below C_s0.out bb)
    replace C_s1 := Aside0.mk (Kd.C_below C_s1.out bb)
    replace C_u0 := Aside0.mk (Kd.C_below C_u0.out bb)
    replace C_u1 := Aside0.mk (Kd.C_below C_u1.out bb)
    replace C_n0 := Aside0.mk (Kd.C_below C_n0.out bb)
    replace C_n1 := Aside0.mk (Kd.C_below C_n1.out bb)
    replace C_h0 := Aside0.mk (Kd.C_below C_h0.out bb)
    replace C_h1 := Aside0.mk (Kd.C_below C_h1.out bb)
    replace C_r0 := Aside0.mk (Kd.C_below C_r0.out bb)
    replace C_r1 := Aside0.mk (Kd.C_below C_r1.out bb)
    replace C_a0 := Aside0.mk (Kd.C_below C_a0.out bb)
    replace C_a1 := Aside0.mk (Kd.C_below C_a1.out bb)
    replace C_b0 := Aside0.mk (Kd.C_below C_b0.out bb)
    replace C_b1 := Aside0.mk (Kd.C_below C_b1.out bb)
    replace C_x0 := Aside0.mk (Kd.C_below C_x0.out bb)
    replace C_x1 := Aside0.mk (Kd.C_below C_x1.out bb)
    replace K_s := Aside0.mk (blk_below K_s.out bb)
    replace K_u := Aside0.mk (blk_below K_u.out bb)
    replace K_n := Aside0.mk (blk_below K_n.out bb)
    replace K_h := Aside0.mk (blk_below K_h.out bb)
    replace K_r := Aside0.mk (blk_below K_r.out bb)
    replace K_a := Aside0.mk (blk_below K_a.out bb)
    replace K_b := Aside0.mk (blk_below K_b.out bb)
    have K_x := Aside0.mk (blk_below (blk_new w9 (.cells #[.slice A_x0 lx0.length c_x0, .slice A_x1 lx1.length c_x1] 26 (0, 0))) b)
    replace BW := Aside0.mk (below_then BW.out BW.out.size bb)
    clear bb
    obtain ⟨A_y0, c_y0, rfl⟩ := Kd.R_slice r_y0
    have C_y0 := Aside0.mk (Kd.R_reads' r_y0).2.2
    have L_y0 := Aside0.mk (Kd.R_reads' r_y0).2.1
    obtain ⟨A_y1, c_y1, rfl⟩ := Kd.R_slice r_y1
    have C_y1 := Aside0.mk (Kd.R_reads' r_y1).2.2
    have L_y1 := Aside0.mk (Kd.R_reads' r_y1).2.1
    clear b r_y0 r_y1
    go_upto_region 12 with fail
    try simp only [Act.put, List.setIfInBounds_toArray, List.set_cons_zero, List.set_cons_succ]
    have bb := (below_alloc (Below.refl _ w10) (.cells #[.slice A_y0 lx0.length c_y0, .slice A_y1 lx1.length c_y1] 26 (0, 0)))
    replace HR0 := Aside0.mk (Kd.C_below HR0.out bb)
    replace C_s0 := Aside0.mk (Kd.C_below C_s0.out bb)
    replace C_s1 := Aside0.mk (Kd.C_below C_s1.out bb)
    replace C_u0 := Aside0.mk (Kd.C_below C_u0.out bb)
    replace C_u1 := Aside0.mk (Kd.C_below C_u1.out bb)
    replace C_n0 := Aside0.mk (Kd.C_below C_n0.out bb)
    replace C_n1 := Aside0.mk (Kd.C_below C_n1.out bb)
    replace C_h0 := Aside0.mk (Kd.C_below C_h0.out bb)
    replace C_h1 := Aside0.mk (Kd.C_below C_h1.out bb)
    replace C_r0 := Aside0.mk (Kd.C_below C_r0.out bb)
    replace C_r1 := Aside0.mk (Kd.C_below C_r1.out bb)
    replace C_a0 := Aside0.mk (Kd.C_below C_a0.out bb)
    replace C_a1 := Aside0.mk (Kd.C_below C_a1.out bb)
    replace C_b0 := Aside0.mk (Kd.C_below C_b0.out bb)
    replace C_b1 := Aside0.mk (Kd.C_below C_b1.out bb)
    replace C_x0 := Aside0.mk (Kd.C_below C_x0.out bb)
    replace C_x1 := Aside0.mk (Kd.C_below C_x1.out bb)
    replace C_y0 := Aside0.mk (Kd.C_below C_y0.out bb)
    replace C_y1 := Aside0.mk (Kd.C_below C_y1.out bb)
    replace K_s := Aside0.mk (blk_below K_s.out bb)
    replace K_u := Aside0.mk (blk_below K_u.out bb)
    replace K_n := Aside0.mk (blk_below K_n.out bb)
    replace K_h := Aside0.mk (blk_below K_h.out bb)
    replace K_r := Aside0.mk (blk_below K_r.out bb)
    replace K_a := Aside0.mk (blk_below K_a.out bb)
    replace K_b := Aside0.mk (blk_below K_b.out bb)
    replace K_x := Aside0.mk (blk_below K_x.out bb)
    have K_y := Aside0.mk (blk_new w10 (.cells #[.slice A_y0 lx0.length c_y0, .slice A_y1 lx1.length c_y1] 26 (0, 0)))
    replace BW := Aside0.mk (below_then BW.out BW.out.size bb)
    clear bb
    refine start_ (n := 71) (S := fun w' => Below (w10.alloc (.cells #[.slice A_y0 lx0.length c_y0, .slice A_y1 lx1.length c_y1] 26 (0, 0))).heap.size (w10.alloc (.cells #[.slice A_y0 lx0.length c_y0, .slice A_y1 lx1.length c_y1] 26 (0, 0))) w') (ds := []) (tf 71 0) (by kernel_rfl) rfl rfl (by apply below_drew1; exact (Below.refl _ (w10.alloc (.cells #[.slice A_y0 lx0.length c_y0, .slice A_y1 lx1.length c_y1] 26 (0, 0))))) (fun hHeld => ?_); refine with_tabW laws_FnShapes.tab12 laws_FnShapes.bits12 (fun HT_ HW_ => ?_)
    generalize (w10.alloc (.cells #[.slice A_y0 lx0.length c_y0, .slice A_y1 lx1.length c_y1] 26 (0, 0))).drew = w11 at hHeld ⊢
    have HB_w11 := Aside0.mk hHeld
    refine pure1 0 59 (tf 71 1) (any_of HT_.out (by kernel_rfl)) ?_
    refine pure1 1 60 (tf 71 2) (any_of HT_.out (by kernel_rfl)) ?_
    refine pure1 2 61 (tf 71 3) (any_of HT_.out (by kernel_rfl)) ?_
    refine pure1 3 62 (tf 71 4) (any_of HT_.out (by kernel_rfl)) ?_
    refine take1 4 63 (.agg #[.slice A_u0 lu0.length c_u0, .slice A_u1 lu1.length c_u1]) (tf 71 5) (take_ofW HT_.out HW_.out (by kernel_rfl)) hHeld rfl (by intro w' hS_; have s0 : w'.cell? ⟨w3.heap.size, 0, none⟩ = some (.slice A_u0 lu0.length c_u0) := (blk_cell (blk_below K_u.out hS_) 0).trans rfl; have s1 : w'.cell? ⟨w3.heap.size, 1, none⟩ = some (.slice A_u1 lu1.length c_u1) := (blk_cell (blk_below K_u.out hS_) 1).trans rfl; go_simp; (try with_reducible rfl)) ?_
    refine take1 5 64 (.agg #[.slice A_n0 lu0.length c_n0, .slice A_n1 lu1.length c_n1]) (tf 71 6) (take_ofW HT_.out HW_.out (by kernel_rfl)) hHeld rfl (by intro w' hS_; have s0 : w'.cell? ⟨w4.heap.size, 0, none⟩ = some (.slice A_n0 lu0.length c_n0) := (blk_cell (blk_below K_n.out hS_) 0).trans rfl; have s1 : w'.cell? ⟨w4.heap.size, 1, none⟩ = some (.slice A_n1 lu1.length c_n1) := (blk_cell (blk_below K_n.out hS_) 1).trans rfl; go_simp; (try with_reducible rfl)) ?_
    refine one_ (i := 6) (N := some 65) (tf 71 7) rfl rfl (one_of HT_.out (by kernel_rfl)) (by decide) (fun K hK => ?_)
    refine goes_ Tryz.func14 (by kernel_rfl) rfl #[.agg #[.slice A_u0 lu0.length c_u0, .slice A_u1 lu1.length c_u1], .agg #[.slice A_n0 lu0.length c_n0, .slice A_n1 lu1.length c_n1]] (by rfl) rfl rfl lm ?_
    refine (spec_EqualShape.calls k _ _ lu0 _ _ lu1 _ _ lu0 _ _ lu1 true _ (Kd.C_below C_u0.out HB_w11.out) L_u0.out (Kd.C_below C_u1.out HB_w11.out) L_u1.out (Kd.C_below C_n0.out HB_w11.out) L_n0.out (Kd.C_below C_n1.out HB_w11.out) L_n1.out E1.out).mono ?_
    rintro e w12 ⟨rfl, b⟩
    refine ⟨_, rfl, ?_⟩
    have HB_w12 := Aside0.mk (below_then HB_w11.out HB_w11.out.size b)
    clear b HB_w11 hHeld
    refine hK.out _ _ HB_w12.out (fun hHeld => ?_); clear hK K; refine norm1 65 ?_
    refine pure1 7 66 (tf 71 8) (any_of HT_.out (by kernel_rfl)) ?_
    refine pure1 8 67 (tf 71 9) (any_of HT_.out (by kernel_rfl)) ?_
    refine pure1 9 68 (tf 71 10) (any_of HT_.out (by kernel_rfl)) ?_
    refine take1 10 69 (.agg #[.slice A_h0 lh0.length c_h0, .slice A_h1 lh1.length c_h1]) (tf 71 11) (take_ofW HT_.out HW_.out (by kernel_rfl)) hHeld rfl (by intro w' hS_; have s0 : w'.cell? ⟨w5.heap.size, 0, none⟩ = some (.slice A_h0 lh0.length c_h0) := (blk_cell (blk_below K_h.out hS_) 0).trans rfl; have s1 : w'.cell? ⟨w5.heap.size, 1, none⟩ = some (.slice A_h1 lh1.length c_h1) := (blk_cell (blk_below K_h.out hS_) 1).trans rfl; go_simp; (try with_reducible rfl)) ?_
    refine take1 12 71 (.agg #[.slice A_h0 lh0.length c_h0, .slice A_h1 lh1.length c_h1]) #[true, true, true, true, true, true, true, true, true, true, true, false, true, false, false, false, false, false, false, false, false, false, false, false, false, false, false, false, false, false, false, false, false, false, false, false, false, false, false, false, false, false, false, false, false, false, false, false, false, false, false, false, false, false, false, false, false, false, false, false, false, false, false, false, false, false, false, false, false, false, false] (take_ofW HT_.out HW_.out (by kernel_rfl)) hHeld rfl (by intro w' hS_; have s0 : w'.cell? ⟨w5.heap.size, 0, none⟩ = some (.slice A_h0 lh0.length c_h0) := (blk_cell (blk_below K_h.out hS_) 0).trans rfl; have s1 : w'.cell? ⟨w5.heap.size, 1, none⟩ = some (.slice A_h1 lh1.length c_h1) := (blk_cell (blk_below K_h.out hS_) 1).trans rfl; go_simp; (try with_reducible rfl)) ?_
    refine one_ (i := 11) (N := some 70) (tf 71 13) rfl rfl (one_of HT_.out (by kernel_rfl)) (by decide) (fun K hK => ?_)
    refine goes_ Tryz.func15 (by kernel_rfl) rfl #[.agg #[.slice A_h0 lh0.length c_h0, .slice A_h1 lh1.length c_h1]] (by rfl) rfl rfl lm ?_
    refine (impl_IsHorizontalStrip.calls k _ _ lh0 _ _ lh1 bh _ (Kd.C_below C_h0.out HB_w12.out) L_h0.out (Kd.C_below C_h1.out HB_w12.out) L_h1.out H1.out).mono ?_
    rintro e w13 ⟨rfl, b⟩
    refine ⟨_, rfl, ?_⟩
    have HB_w13 := Aside0.mk (below_then HB_w12.out HB_w12.out.size b)
    clear b HB_w12 hHeld
    refine hK.out _ _ HB_w13.out (fun hHeld => ?_); clear hK K; refine norm1 70 ?_
    refine one_ (i := 13) (N := some 72) (tf 71 14) rfl rfl (one_of HT_.out (by kernel_rfl)) (by decide) (fun K hK => ?_)
    refine goes_ Tryz.func16 (by kernel_rfl) rfl #[.agg #[.slice A_h0 lh0.length c_h0, .slice A_h1 lh1.length c_h1]] (by rfl) rfl rfl lm ?_
    refine (spec_IsHorizontalStrip.calls k _ _ lh0 _ _ lh1 bh _ (Kd.C_below C_h0.out HB_w13.out) L_h0.out (Kd.C_below C_h1.out HB_w13.out) L_h1.out H2.out).mono ?_
    rintro e w14 ⟨rfl, b⟩
    refine ⟨_, rfl, ?_⟩
    have HB_w14 := Aside0.mk (below_then HB_w13.out HB_w13.out.size b)
    clear b HB_w13 hHeld
    refine hK.out _ _ HB_w14.out (fun hHeld => ?_); clear hK K; refine norm1 72 ?_
    refine pure1 14 73 (tf 71 15) (any_of HT_.out (by kernel_rfl)) ?_
    refine pure1 15 74 (tf 71 16) (any_of HT_.out (by kernel_rfl)) ?_
    refine pure1 16 75 (tf 71 17) (any_of HT_.out (by kernel_rfl)) ?_
    refine take1 17 76 (.agg #[.slice A_h0 lh0.length c_h0, .slice A_h1 lh1.length c_h1]) (tf 71 18) (take_ofW HT_.out HW_.out (by kernel_rfl)) hHeld rfl (by intro w' hS_; have s0 : w'.cell? ⟨w5.heap.size, 0, none⟩ = some (.slice A_h0 lh0.length c_h0) := (blk_cell (blk_below K_h.out hS_) 0).trans rfl; have s1 : w'.cell? ⟨w5.heap.size, 1, none⟩ = some (.slice A_h1 lh1.length c_h1) := (blk_cell (blk_below K_h.out hS_) 1).trans rfl; go_simp; (try with_reducible rfl)) ?_
    refine take1 19 78 (.agg #[.slice A_h0 lh0.length c_h0, .slice A_h1 lh1.length c_h1]) #[true, true, true, true, true, true, true, true, true, true, true, true, true, true, true, true, true, true, false, true, false, false, false, false, false, false, false, false, false, false, false, false, false, false, false, false, false, false, false, false, false, false, false, false, false, false, false, false, false, false, false, false, false, false, false, false, false, false, false, false, false, false, false, false, false, false, false, false, false, false, false] (take_ofW HT_.out HW_.out (by kernel_rfl)) hHeld rfl (by intro w' hS_; have s0 : w'.cell? ⟨w5.heap.size, 0, none⟩ = some (.slice A_h0 lh0.length c_h0) := (blk_cell (blk_below K_h.out hS_) 0).trans rfl; have s1 : w'.cell? ⟨w5.heap.size, 1, none⟩ = some (.slice A_h1 lh1.length c_h1) := (blk_cell (blk_below K_h.out hS_) 1).trans rfl; go_simp; (try with_reducible rfl)) ?_
    refine one_ (i := 18) (N := some 77) (tf 71 20) rfl rfl (one_of HT_.out (by kernel_rfl)) (by decide) (fun K hK => ?_)
    refine goes_ Tryz.func17 (by kernel_rfl) rfl #[.agg #[.slice A_h0 lh0.length c_h0, .slice A_h1 lh1.length c_h1]] (by rfl) rfl rfl lm ?_
    refine (impl_IsVerticalStrip.calls k _ _ lh0 _ _ lh1 bv _ (Kd.C_below C_h0.out HB_w14.out) L_h0.out (Kd.C_below C_h1.out HB_w14.out) L_h1.out V1.out).mono ?_
    rintro e w15 ⟨rfl, b⟩
    refine ⟨_, rfl, ?_⟩
    have HB_w15 := Aside0.mk (below_then HB_w14.out HB_w14.out.size b)
    clear b HB_w14 hHeld
    refine hK.out _ _ HB_w15.out (fun hHeld => ?_); clear hK K; refine norm1 77 ?_
    refine one_ (i := 20) (N := some 79) (tf 71 21) rfl rfl (one_of HT_.out (by kernel_rfl)) (by decide) (fun K hK => ?_)
    refine goes_ Tryz.func18 (by kernel_rfl) rfl #[.agg #[.slice A_h0 lh0.length c_h0, .slice A_h1 lh1.length c_h1]] (by rfl) rfl rfl lm ?_
    refine (spec_IsVerticalStrip.calls k _ _ lh0 _ _ lh1 bv _ (Kd.C_below C_h0.out HB_w15.out) L_h0.out (Kd.C_below C_h1.out HB_w15.out) L_h1.out V2.out).mono ?_
    rintro e w16 ⟨rfl, b⟩
    refine ⟨_, rfl, ?_⟩
    have HB_w16 := Aside0.mk (below_then HB_w15.out HB_w15.out.size b)
    clear b HB_w15 hHeld
    refine hK.out _ _ HB_w16.out (fun hHeld => ?_); clear hK K; refine norm1 79 ?_
    refine pure1 21 80 (tf 71 22) (any_of HT_.out (by kernel_rfl)) ?_
    refine pure1 22 81 (tf 71 23) (any_of HT_.out (by kernel_rfl)) ?_
    refine pure1 23 82 (tf 71 24) (any_of HT_.out (by kernel_rfl)) ?_
    refine take1 24 83 (.agg #[.slice A_r0 lr0.length c_r0, .slice A_r1 lr1.length c_r1]) (tf 71 25) (take_ofW HT_.out HW_.out (by kernel_rfl)) hHeld rfl (by intro w' hS_; have s0 : w'.cell? ⟨w6.heap.size, 0, none⟩ = some (.slice A_r0 lr0.length c_r0) := (blk_cell (blk_below K_r.out hS_) 0).trans rfl; have s1 : w'.cell? ⟨w6.heap.size, 1, none⟩ = some (.slice A_r1 lr1.length c_r1) := (blk_cell (blk_below K_r.out hS_) 1).trans rfl; go_simp; (try with_reducible rfl)) ?_
    refine take1 26 85 (.agg #[.slice A_r0 lr0.length c_r0, .slice A_r1 lr1.length c_r1]) #[true, true, true, true, true, true, true, true, true, true, true, true, true, true, true, true, true, true, true, true, true, true, true, true, true, false, true, false, false, false, false, false, false, false, false, false, false, false, false, false, false, false, false, false, false, false, false, false, false, false, false, false, false, false, false, false, false, false, false, false, false, false, false, false, false, false, false, false, false, false, false] (take_ofW HT_.out HW_.out (by kernel_rfl)) hHeld rfl (by intro w' hS_; have s0 : w'.cell? ⟨w6.heap.size, 0, none⟩ = some (.slice A_r0 lr0.length c_r0) := (blk_cell (blk_below K_r.out hS_) 0).trans rfl; have s1 : w'.cell? ⟨w6.heap.size, 1, none⟩ = some (.slice A_r1 lr1.length c_r1) := (blk_cell (blk_below K_r.out hS_) 1).trans rfl; go_simp; (try with_reducible rfl)) ?_
    refine one_ (i := 25) (N := some 84) (tf 71 27) rfl rfl (one_of HT_.out (by kernel_rfl)) (by decide) (fun K hK => ?_)
    refine goes_ Tryz.func19 (by kernel_rfl) rfl #[.agg #[.slice A_r0 lr0.length c_r0, .slice A_r1 lr1.length c_r1]] (by rfl) rfl rfl lm ?_
    refine (impl_IsRibbon.calls k _ _ lr0 _ _ lr1 br _ (Kd.C_below C_r0.out HB_w16.out) L_r0.out (Kd.C_below C_r1.out HB_w16.out) L_r1.out R1.out).mono ?_
    rintro e w17 ⟨rfl, b⟩
    refine ⟨_, rfl, ?_⟩
    have HB_w17 := Aside0.mk (below_then HB_w16.out HB_w16.out.size b)
    clear b HB_w16 hHeld
    refine hK.out _ _ HB_w17.out (fun hHeld => ?_); clear hK K; refine norm1 84 ?_
    refine one_ (i := 27) (N := some 86) (tf 71 28) rfl rfl (one_of HT_.out (by kernel_rfl)) (by decide) (fun K hK => ?_)
    refine goes_ Tryz.func20 (by kernel_rfl) rfl #[.agg #[.slice A_r0 lr0.length c_r0, .slice A_r1 lr1.length c_r1]] (by rfl) rfl rfl lm ?_
    refine (spec_IsRibbon.calls k _ _ lr0 _ _ lr1 br _ (Kd.C_below C_r0.out HB_w17.out) L_r0.out (Kd.C_below C_r1.out HB_w17.out) L_r1.out R2.out).mono ?_
    rintro e w18 ⟨rfl, b⟩
    refine ⟨_, rfl, ?_⟩
    have HB_w18 := Aside0.mk (below_then HB_w17.out HB_w17.out.size b)
    clear b HB_w17 hHeld
    refine hK.out _ _ HB_w18.out (fun hHeld => ?_); clear hK K; refine norm1 86 ?_
    refine pure1 28 87 (tf 71 29) (any_of HT_.out (by kernel_rfl)) ?_
    refine pure1 29 88 (tf 71 30) (any_of HT_.out (by kernel_rfl)) ?_
    refine pure1 30 89 (tf 71 31) (any_of HT_.out (by kernel_rfl)) ?_
    refine take1 31 90 (.agg #[.slice A_r0 lr0.length c_r0, .slice A_r1 lr1.length c_r1]) (tf 71 32) (take_ofW HT_.out HW_.out (by kernel_rfl)) hHeld rfl (by intro w' hS_; have s0 : w'.cell? ⟨w6.heap.size, 0, none⟩ = some (.slice A_r0 lr0.length c_r0) := (blk_cell (blk_below K_r.out hS_) 0).trans rfl; have s1 : w'.cell? ⟨w6.heap.size, 1, none⟩ = some (.slice A_r1 lr1.length c_r1) := (blk_cell (blk_below K_r.out hS_) 1).trans rfl; go_simp; (try with_reducible rfl)) ?_
    refine take1 33 92 (.agg #[.slice A_r0 lr0.length c_r0, .slice A_r1 lr1.length c_r1]) #[true, true, true, true, true, true, true, true, true, true, true, true, true, true, true, true, true, true, true, true, true, true, true, true, true, true, true, true, true, true, true, true, false, true, false, false, false, false, false, false, false, false, false, false, false, false, false, false, false, false, false, false, false, false, false, false, false, false, false, false, false, false, false, false, false, false, false, false, false, false, false] (take_ofW HT_.out HW_.out (by kernel_rfl)) hHeld rfl (by intro w' hS_; have s0 : w'.cell? ⟨w6.heap.size, 0, none⟩ = some (.slice A_r0 lr0.length c_r0) := (blk_cell (blk_below K_r.out hS_) 0).trans rfl; have s1 : w'.cell? ⟨w6.heap.size, 1, none⟩ = some (.slice A_r1 lr1.length c_r1) := (blk_cell (blk_below K_r.out hS_) 1).trans rfl; go_simp; (try with_reducible rfl)) ?_
    refine one_ (i := 32) (N := some 91) (tf 71 34) rfl rfl (one_of HT_.out (by kernel_rfl)) (by decide) (fun K hK => ?_)
    refine goes_ Tryz.func21 (by kernel_rfl) rfl #[.agg #[.slice A_r0 lr0.length c_r0, .slice A_r1 lr1.length c_r1]] (by rfl) rfl rfl lm ?_
    refine (impl_RibbonHeight.calls k _ _ lr0 _ _ lr1 g _ (Kd.C_below C_r0.out HB_w18.out) L_r0.out (Kd.C_below C_r1.out HB_w18.out) L_r1.out G1.out).mono ?_
    rintro e w19 ⟨rfl, b⟩
    refine ⟨_, rfl, ?_⟩
    have HB_w19 := Aside0.mk (below_then HB_w18.out HB_w18.out.size b)
    clear b HB_w18 hHeld
    refine hK.out _ _ HB_w19.out (fun hHeld => ?_); clear hK K; refine norm1 91 ?_
    refine one_ (i := 34) (N := some 93) (tf 71 35) rfl rfl (one_of HT_.out (by kernel_rfl)) (by decide) (fun K hK => ?_)
    refine goes_ Tryz.func22 (by kernel_rfl) rfl #[.agg #[.slice A_r0 lr0.length c_r0, .slice A_r1 lr1.length c_r1]] (by rfl) rfl rfl lm ?_
    refine (spec_RibbonHeight.calls k _ _ lr0 _ _ lr1 g _ (Kd.C_below C_r0.out HB_w19.out) L_r0.out (Kd.C_below C_r1.out HB_w19.out) L_r1.out G2.out).mono ?_
    rintro e w20 ⟨rfl, b⟩
    refine ⟨_, rfl, ?_⟩
    have HB_w20 := Aside0.mk (below_then HB_w19.out HB_w19.out.size b)
    clear b HB_w19 hHeld
    refine hK.out _ _ HB_w20.out (fun hHeld => ?_); clear hK K; refine norm1 93 ?_
    refine pure1 35 94 (tf 71 36) (any_of HT_.out (by kernel_rfl)) ?_
    refine pure1 36 95 (tf 71 37) (any_of HT_.out (by kernel_rfl)) ?_
    refine pure1 37 96 (tf 71 38) (any_of HT_.out (by kernel_rfl)) ?_
    refine take1 38 97 (.agg #[.slice A_a0 la0.length c_a0, .slice A_a1 la1.length c_a1]) (tf 71 39) (take_ofW HT_.out HW_.out (by kernel_rfl)) hHeld rfl (by intro w' hS_; have s0 : w'.cell? ⟨w7.heap.size, 0, none⟩ = some (.slice A_a0 la0.length c_a0) := (blk_cell (blk_below K_a.out hS_) 0).trans rfl; have s1 : w'.cell? ⟨w7.heap.size, 1, none⟩ = some (.slice A_a1 la1.length c_a1) := (blk_cell (blk_below K_a.out hS_) 1).trans rfl; go_simp; (try with_reducible rfl)) ?_
    refine take1 39 98 (.agg #[.slice A_b0 lb0.length c_b0, .slice A_b1 lb1.length c_b1]) (tf 71 40) (take_ofW HT_.out HW_.out (by kernel_rfl)) hHeld rfl (by intro w' hS_; have s0 : w'.cell? ⟨(w7.heap.size + 1), 0, none⟩ = some (.slice A_b0 lb0.length c_b0) := (blk_cell (blk_below K_b.out hS_) 0).trans rfl; have s1 : w'.cell? ⟨(w7.heap.size + 1), 1, none⟩ = some (.slice A_b1 lb1.length c_b1) := (blk_cell (blk_below K_b.out hS_) 1).trans rfl; go_simp; (try with_reducible rfl)) ?_
    refine take1 41 100 (.agg #[.slice A_a0 la0.length c_a0, .slice A_a1 la1.length c_a1]) #[true, true, true, true, true, true, true, true, true, true, true, true, true, true, true, true, true, true, true, true, true, true, true, true, true, true, true, true, true, true, true, true, true, true, true, true, true, true, true, true, false, true, false, false, false, false, false, false, false, false, false, false, false, false, false, false, false, false, false, false, false, false, false, false, false, false, false, false, false, false, false] (take_ofW HT_.out HW_.out (by kernel_rfl)) hHeld rfl (by intro w' hS_; have s0 : w'.cell? ⟨w7.heap.size, 0, none⟩ = some (.slice A_a0 la0.length c_a0) := (blk_cell (blk_below K_a.out hS_) 0).trans rfl; have s1 : w'.cell? ⟨w7.heap.size, 1, none⟩ = some (.slice A_a1 la1.length c_a1) := (blk_cell (blk_below K_a.out hS_) 1).trans rfl; go_simp; (try with_reducible rfl)) ?_
    refine take1 42 101 (.agg #[.slice A_b0 lb0.length c_b0, .slice A_b1 lb1.length c_b1]) #[true, true, true, true, true, true, true, true, true, true, true, true, true, true, true, true, true, true, true, true, true, true, true, true, true, true, true, true, true, true, true, true, true, true, true, true, true, true, true, true, false, true, true, false, false, false, false, false, false, false, false, false, false, false, false, false, false, false, false, false, false, false, false, false, false, false, false, false, false, false, false] (take_ofW HT_.out HW_.out (by kernel_rfl)) hHeld rfl (by intro w' hS_; have s0 : w'.cell? ⟨(w7.heap.size + 1), 0, none⟩ = some (.slice A_b0 lb0.length c_b0) := (blk_cell (blk_below K_b.out hS_) 0).trans rfl; have s1 : w'.cell? ⟨(w7.heap.size + 1), 1, none⟩ = some (.slice A_b1 lb1.length c_b1) := (blk_cell (blk_below K_b.out hS_) 1).trans rfl; go_simp; (try with_reducible rfl)) ?_
    refine one_ (i := 40) (N := some 99) (tf 71 43) rfl rfl (one_of HT_.out (by kernel_rfl)) (by decide) (fun K hK => ?_)
    refine goes_ Tryz.func23 (by kernel_rfl) rfl #[.agg #[.slice A_a0 la0.length c_a0, .slice A_a1 la1.length c_a1], .agg #[.slice A_b0 lb0.length c_b0, .slice A_b1 lb1.length c_b1]] (by rfl) rfl rfl lm ?_
    refine (impl_EqualShape.calls k _ _ la0 _ _ la1 _ _ lb0 _ _ lb1 be _ (Kd.C_below C_a0.out HB_w20.out) L_a0.out (Kd.C_below C_a1.out HB_w20.out) L_a1.out (Kd.C_below C_b0.out HB_w20.out) L_b0.out (Kd.C_below C_b1.out HB_w20.out) L_b1.out Q1.out).mono ?_
    rintro e w21 ⟨rfl, b⟩
    refine ⟨_, rfl, ?_⟩
    have HB_w21 := Aside0.mk (below_then HB_w20.out HB_w20.out.size b)
    clear b HB_w20 hHeld
    refine hK.out _ _ HB_w21.out (fun hHeld => ?_); clear hK K; refine norm1 99 ?_
    refine one_ (i := 43) (N := some 102) (tf 71 44) rfl rfl (one_of HT_.out (by kernel_rfl)) (by decide) (fun K hK => ?_)
    refine goes_ Tryz.func14 (by kernel_rfl) rfl #[.agg #[.slice A_a0 la0.length c_a0, .slice A_a1 la1.length c_a1], .agg #[.slice A_b0 lb0.length c_b0, .slice A_b1 lb1.length c_b1]] (by rfl) rfl rfl lm ?_
    refine (spec_EqualShape.calls k _ _ la0 _ _ la1 _ _ lb0 _ _ lb1 be _ (Kd.C_below C_a0.out HB_w21.out) L_a0.out (Kd.C_below C_a1.out HB_w21.out) L_a1.out (Kd.C_below C_b0.out HB_w21.out) L_b0.out (Kd.C_below C_b1.out HB_w21.out) L_b1.out Q2.out).mono ?_
    rintro e w22 ⟨rfl, b⟩
    refine ⟨_, rfl, ?_⟩
    have HB_w22 := Aside0.mk (below_then HB_w21.out HB_w21.out.size b)
    clear b HB_w21 hHeld
    refine hK.out _ _ HB_w22.out (fun hHeld => ?_); clear hK K; refine norm1 102 ?_
    refine pure1 44 103 (tf 71 45) (any_of HT_.out (by kernel_rfl)) ?_
    refine pure1 45 104 (tf 71 46) (any_of HT_.out (by kernel_rfl)) ?_
    refine pure1 46 105 (tf 71 47) (any_of HT_.out (by kernel_rfl)) ?_
    refine pure1 47 106 (tf 71 48) (any_of HT_.out (by kernel_rfl)) ?_
    refine pure1 48 107 (tf 71 49) (any_of HT_.out (by kernel_rfl)) ?_
    refine pure1 49 108 (tf 71 50) (any_of HT_.out (by kernel_rfl)) ?_
    refine pure1 50 109 (tf 71 51) (any_of HT_.out (by kernel_rfl)) ?_
    refine pure1 51 110 (tf 71 52) (any_of HT_.out (by kernel_rfl)) ?_
    refine take1 52 111 (.agg #[.slice A_x0 lx0.length c_x0, .slice A_x1 lx1.length c_x1]) (tf 71 53) (take_ofW HT_.out HW_.out (by kernel_rfl)) hHeld rfl (by intro w' hS_; have s0 : w'.cell? ⟨w9.heap.size, 0, none⟩ = some (.slice A_x0 lx0.length c_x0) := (blk_cell (blk_below K_x.out hS_) 0).trans rfl; have s1 : w'.cell? ⟨w9.heap.size, 1, none⟩ = some (.slice A_x1 lx1.length c_x1) := (blk_cell (blk_below K_x.out hS_) 1).trans rfl; go_simp; (try with_reducible rfl)) ?_
    refine take1 53 112 (.agg #[.slice A_y0 lx0.length c_y0, .slice A_y1 lx1.length c_y1]) (tf 71 54) (take_ofW HT_.out HW_.out (by kernel_rfl)) hHeld rfl (by intro w' hS_; have s0 : w'.cell? ⟨w10.heap.size, 0, none⟩ = some (.slice A_y0 lx0.length c_y0) := (blk_cell (blk_below K_y.out hS_) 0).trans rfl; have s1 : w'.cell? ⟨w10.heap.size, 1, none⟩ = some (.slice A_y1 lx1.length c_y1) := (blk_cell (blk_below K_y.out hS_) 1).trans rfl; go_simp; (try with_reducible rfl)) ?_
    refine one_ (i := 54) (N := some 113) (tf 71 55) rfl rfl (one_of HT_.out (by kernel_rfl)) (by decide) (fun K hK => ?_)
    refine goes_ Tryz.func14 (by kernel_rfl) rfl #[.agg #[.slice A_x0 lx0.length c_x0, .slice A_x1 lx1.length c_x1], .agg #[.slice A_y0 lx0.length c_y0, .slice A_y1 lx1.length c_y1]] (by rfl) rfl rfl lm ?_
    refine (spec_EqualShape.calls k _ _ lx0 _ _ lx1 _ _ lx0 _ _ lx1 true _ (Kd.C_below C_x0.out HB_w22.out) L_x0.out (Kd.C_below C_x1.out HB_w22.out) L_x1.out (Kd.C_below C_y0.out HB_w22.out) L_y0.out (Kd.C_below C_y1.out HB_w22.out) L_y1.out E2.out).mono ?_
    rintro e w23 ⟨rfl, b⟩
    refine ⟨_, rfl, ?_⟩
    have HB_w23 := Aside0.mk (below_then HB_w22.out HB_w22.out.size b)
    clear b HB_w22 hHeld
    refine hK.out _ _ HB_w23.out (fun hHeld => ?_); clear hK K; refine norm1 113 ?_
    refine pure1 55 114 (tf 71 56) (any_of HT_.out (by kernel_rfl)) ?_
    refine pure1 56 115 (tf 71 57) (any_of HT_.out (by kernel_rfl)) ?_
    refine pure1 57 116 (tf 71 58) (any_of HT_.out (by kernel_rfl)) ?_
    refine take1 58 117 (.agg #[.slice A_s0 ls0.length c_s0, .slice A_s1 ls1.length c_s1]) (tf 71 59) (take_ofW HT_.out HW_.out (by kernel_rfl)) hHeld rfl (by intro w' hS_; have s0 : w'.cell? ⟨w2.heap.size, 0, none⟩ = some (.slice A_s0 ls0.length c_s0) := (blk_cell (blk_below K_s.out hS_) 0).trans rfl; have s1 : w'.cell? ⟨w2.heap.size, 1, none⟩ = some (.slice A_s1 ls1.length c_s1) := (blk_cell (blk_below K_s.out hS_) 1).trans rfl; go_simp; (try with_reducible rfl)) ?_
    refine take1 60 119 (.agg #[.slice A_s0 ls0.length c_s0, .slice A_s1 ls1.length c_s1]) #[true, true, true, true, true, true, true, true, true, true, true, true, true, true, true, true, true, true, true, true, true, true, true, true, true, true, true, true, true, true, true, true, true, true, true, true, true, true, true, true, true, true, true, true, true, true, true, true, true, true, true, true, true, true, true, true, true, true, true, false, true, false, false, false, false, false, false, false, false, false, false] (take_ofW HT_.out HW_.out (by kernel_rfl)) hHeld rfl (by intro w' hS_; have s0 : w'.cell? ⟨w2.heap.size, 0, none⟩ = some (.slice A_s0 ls0.length c_s0) := (blk_cell (blk_below K_s.out hS_) 0).trans rfl; have s1 : w'.cell? ⟨w2.heap.size, 1, none⟩ = some (.slice A_s1 ls1.length c_s1) := (blk_cell (blk_below K_s.out hS_) 1).trans rfl; go_simp; (try with_reducible rfl)) ?_
    refine one_ (i := 59) (N := some 118) (tf 71 61) rfl rfl (one_of HT_.out (by kernel_rfl)) (by decide) (fun K hK => ?_)
    refine goes_ Tryz.func24 (by kernel_rfl) rfl #[.agg #[.slice A_s0 ls0.length c_s0, .slice A_s1 ls1.length c_s1]] (by rfl) rfl rfl lm ?_
    refine (impl_IsShape.calls k _ _ ls0 _ _ ls1 bs _ (Kd.C_below C_s0.out HB_w23.out) L_s0.out (Kd.C_below C_s1.out HB_w23.out) L_s1.out S1.out).mono ?_
    rintro e w24 ⟨rfl, b⟩
    refine ⟨_, rfl, ?_⟩
    have HB_w24 := Aside0.mk (below_then HB_w23.out HB_w23.out.size b)
    clear b HB_w23 hHeld
    refine hK.out _ _ HB_w24.out (fun hHeld => ?_); clear hK K; refine norm1 118 ?_
    refine one_ (i := 61) (N := some 120) (tf 71 62) rfl rfl (one_of HT_.out (by kernel_rfl)) (by decide) (fun K hK => ?_)
    refine goes_ Tryz.func25 (by kernel_rfl) rfl #[.agg #[.slice A_s0 ls0.length c_s0, .slice A_s1 ls1.length c_s1]] (by rfl) rfl rfl lm ?_
    refine (spec_IsShape.calls k _ _ ls0 _ _ ls1 bs _ (Kd.C_below C_s0.out HB_w24.out) L_s0.out (Kd.C_below C_s1.out HB_w24.out) L_s1.out S2.out).mono ?_
    rintro e w25 ⟨rfl, b⟩
    refine ⟨_, rfl, ?_⟩
    have HB_w25 := Aside0.mk (below_then HB_w24.out HB_w24.out.size b)
    clear b HB_w24 hHeld
    refine hK.out _ _ HB_w25.out (fun hHeld => ?_); clear hK K; refine norm1 120 ?_
    refine pure1 62 121 (tf 71 63) (any_of HT_.out (by kernel_rfl)) ?_
    refine pure1 63 122 (tf 71 64) (any_of HT_.out (by kernel_rfl)) ?_
    refine pure1 64 123 (tf 71 65) (any_of HT_.out (by kernel_rfl)) ?_
    refine take1 65 124 (.agg #[.slice A_s0 ls0.length c_s0, .slice A_s1 ls1.length c_s1]) (tf 71 66) (take_ofW HT_.out HW_.out (by kernel_rfl)) hHeld rfl (by intro w' hS_; have s0 : w'.cell? ⟨w2.heap.size, 0, none⟩ = some (.slice A_s0 ls0.length c_s0) := (blk_cell (blk_below K_s.out hS_) 0).trans rfl; have s1 : w'.cell? ⟨w2.heap.size, 1, none⟩ = some (.slice A_s1 ls1.length c_s1) := (blk_cell (blk_below K_s.out hS_) 1).trans rfl; go_simp; (try with_reducible rfl)) ?_
    refine take1 67 126 (.agg #[.slice A_s0 ls0.length c_s0, .slice A_s1 ls1.length c_s1]) #[true, true, true, true, true, true, true, true, true, true, true, true, true, true, true, true, true, true, true, true, true, true, true, true, true, true, true, true, true, true, true, true, true, true, true, true, true, true, true, true, true, true, true, true, true, true, true, true, true, true, true, true, true, true, true, true, true, true, true, true, true, true, true, true, true, true, false, true, false, false, false] (take_ofW HT_.out HW_.out (by kernel_rfl)) hHeld rfl (by intro w' hS_; have s0 : w'.cell? ⟨w2.heap.size, 0, none⟩ = some (.slice A_s0 ls0.length c_s0) := (blk_cell (blk_below K_s.out hS_) 0).trans rfl; have s1 : w'.cell? ⟨w2.heap.size, 1, none⟩ = some (.slice A_s1 ls1.length c_s1) := (blk_cell (blk_below K_s.out hS_) 1).trans rfl; go_simp; (try with_reducible rfl)) ?_
    refine one_ (i := 66) (N := some 125) (tf 71 68) rfl rfl (one_of HT_.out (by kernel_rfl)) (by decide) (fun K hK => ?_)
    refine goes_ Tryz.func26 (by kernel_rfl) rfl #[.agg #[.slice A_s0 ls0.length c_s0, .slice A_s1 ls1.length c_s1]] (by rfl) rfl rfl lm ?_
    refine (impl_CellCount.calls k _ _ ls0 _ _ ls1 c _ (Kd.C_below C_s0.out HB_w25.out) L_s0.out (Kd.C_below C_s1.out HB_w25.out) L_s1.out C1.out).mono ?_
    rintro e w26 ⟨rfl, b⟩
    refine ⟨_, rfl, ?_⟩
    have HB_w26 := Aside0.mk (below_then HB_w25.out HB_w25.out.size b)
    clear b HB_w25 hHeld
    refine hK.out _ _ HB_w26.out (fun hHeld => ?_); clear hK K; refine norm1 125 ?_
    refine one_ (i := 68) (N := some 127) (tf 71 69) rfl rfl (one_of HT_.out (by kernel_rfl)) (by decide) (fun K hK => ?_)
    refine goes_ Tryz.func27 (by kernel_rfl) rfl #[.agg #[.slice A_s0 ls0.length c_s0, .slice A_s1 ls1.length c_s1]] (by rfl) rfl rfl lm ?_
    refine (spec_CellCount.calls k _ _ ls0 _ _ ls1 c _ (Kd.C_below C_s0.out HB_w26.out) L_s0.out (Kd.C_below C_s1.out HB_w26.out) L_s1.out C2.out).mono ?_
    rintro e w27 ⟨rfl, b⟩
    refine ⟨_, rfl, ?_⟩
    have HB_w27 := Aside0.mk (below_then HB_w26.out HB_w26.out.size b)
    clear b HB_w26 hHeld
    refine hK.out _ _ HB_w27.out (fun hHeld => ?_); clear hK K; refine norm1 127 ?_
    refine pure1 69 128 (tf 71 70) (any_of HT_.out (by kernel_rfl)) ?_
    refine pure1 70 129 (tf 71 71) (any_of HT_.out (by kernel_rfl)) ?_
    refine done_ (done_of HT_.out (by kernel_rfl)) ?_
    clear HT_ HW_ hHeld
    have hc_s0 : w27.cell? ⟨w2.heap.size, 0, none⟩ = some (.slice A_s0 ls0.length c_s0) := (blk_cell (blk_below K_s.out HB_w27.out) 0).trans rfl
    have hf_s0 := blk_frozen (blk_below K_s.out HB_w27.out) 0
    have hc_s1 : w27.cell? ⟨w2.heap.size, 1, none⟩ = some (.slice A_s1 ls1.length c_s1) := (blk_cell (blk_below K_s.out HB_w27.out) 1).trans rfl
    have hf_s1 := blk_frozen (blk_below K_s.out HB_w27.out) 1
    have hl_s : w2.heap.size < w27.heap.size := blk_lt (blk_below K_s.out HB_w27.out)
    go_wp2_with fail
    refine (impl_ShapeText.calls k _ _ ls0 _ _ ls1 tx _ (Kd.C_below C_s0.out HB_w27.out) L_s0.out (Kd.C_below C_s1.out HB_w27.out) L_s1.out (HT.out.below (below_then BW.out BW.out.size HB_w27.out)) T1.out).mono ?_
    rintro e w28 ⟨rfl, b⟩
    clear hc_s0 hf_s0 hc_s1 hf_s1 hl_s
    have HB_w28 := Aside0.mk (below_then HB_w27.out HB_w27.out.size b)
    clear b HB_w27
    go_wp2_with fail
    refine (impl_ParseShape.calls k tx lz0 lz1 bs _ (HT.out.below (below_then BW.out BW.out.size HB_w28.out)) T2.out).mono ?_
    rintro e w29 ⟨v_z0, v_z1, rfl, r_z0, r_z1, b⟩
    have bb := below_then HB_w28.out HB_w28.out.size b
    replace HR0 := Aside0.mk (Kd.C_below HR0.out bb)
    replace C_s0 := Aside0.mk (Kd.C_below C_s0.out bb)
    replace C_s1 := Aside0.mk (Kd.C_below C_s1.out bb)
    replace C_u0 := Aside0.mk (Kd.C_below C_u0.out bb)
    replace C_u1 := Aside0.mk (Kd.C_below C_u1.out bb)
    replace C_n0 := Aside0.mk (Kd.C_below C_n0.out bb)
    replace C_n1 := Aside0.mk (Kd.C_below C_n1.out bb)
    replace C_h0 := Aside0.mk (Kd.C_below C_h0.out bb)
    replace C_h1 := Aside0.mk (Kd.C_below C_h1.out bb)
    replace C_r0 := Aside0.mk (Kd.C_below C_r0.out bb)
    replace C_r1 := Aside0.mk (Kd.C_below C_r1.out bb)
    replace C_a0 := Aside0.mk (Kd.C_below C_a0.out bb)
    replace C_a1 := Aside0.mk (Kd.C_below C_a1.out bb)
    replace C_b0 := Aside0.mk (Kd.C_below C_b0.out bb)
    replace C_b1 := Aside0.mk (Kd.C_below C_b1.out bb)
    replace C_x0 := Aside0.mk (Kd.C_below C_x0.out bb)
    replace C_x1 := Aside0.mk (Kd.C_below C_x1.out bb)
    replace C_y0 := Aside0.mk (Kd.C_below C_y0.out bb)
    replace C_y1 := Aside0.mk (Kd.C_below C_y1.out bb)
    replace K_s := Aside0.mk (blk_below K_s.out bb)
    replace K_u := Aside0.mk (blk_below K_u.out bb)
    replace K_n := Aside0.mk (blk_below K_n.out bb)
    replace K_h := Aside0.mk (blk_below K_h.out bb)
    replace K_r := Aside0.mk (blk_below K_r.out bb)
    replace K_a := Aside0.mk (blk_below K_a.out bb)
    replace K_b := Aside0.mk (blk_below K_b.out bb)
    replace K_x := Aside0.mk (blk_below K_x.out bb)
    replace K_y := Aside0.mk (blk_below K_y.out bb)
    replace BW := Aside0.mk (below_then BW.out BW.out.size bb)
    clear bb HB_w28
    obtain ⟨A_z0, c_z0, rfl⟩ := Kd.R_slice r_z0
    have C_z0 := Aside0.mk (Kd.R_reads' r_z0).2.2
    have L_z0 := Aside0.mk (Kd.R_reads' r_z0).2.1
    obtain ⟨A_z1, c_z1, rfl⟩ := Kd.R_slice r_z1
    have C_z1 := Aside0.mk (Kd.R_reads' r_z1).2.2
    have L_z1 := Aside0.mk (Kd.R_reads' r_z1).2.1
    clear b r_z0 r_z1
    go_upto_region 16 with fail
    try simp only [Act.put, List.setIfInBounds_toArray, List.set_cons_zero, List.set_cons_succ]
    have bb := (below_alloc (Below.refl _ w29) (.cells #[.slice A_z0 lz0.length c_z0, .slice A_z1 lz1.length c_z1] 26 (0, 0)))
    replace HR0 := Aside0.mk (Kd.C_below HR0.out bb)
    replace C_s0 := Aside0.mk (Kd.C_below C_s0.out bb)
    replace C_s1 := Aside0.mk (Kd.C_below C_s1.out bb)
    replace C_u0 := Aside0.mk (Kd.C_below C_u0.out bb)
    replace C_u1 := Aside0.mk (Kd.C_below C_u1.out bb)
    replace C_n0 := Aside0.mk (Kd.C_below C_n0.out bb)
    replace C_n1 := Aside0.mk (Kd.C_below C_n1.out bb)
    replace C_h0 := Aside0.mk (Kd.C_below C_h0.out bb)
    replace C_h1 := Aside0.mk (Kd.C_below C_h1.out bb)
    replace C_r0 := Aside0.mk (Kd.C_below C_r0.out bb)
    replace C_r1 := Aside0.mk (Kd.C_below C_r1.out bb)
    replace C_a0 := Aside0.mk (Kd.C_below C_a0.out bb)
    replace C_a1 := Aside0.mk (Kd.C_below C_a1.out bb)
    replace C_b0 := Aside0.mk (Kd.C_below C_b0.out bb)
    replace C_b1 := Aside0.mk (Kd.C_below C_b1.out bb)
    replace C_x0 := Aside0.mk (Kd.C_below C_x0.out bb)
    replace C_x1 := Aside0.mk (Kd.C_below C_x1.out bb)
    replace C_y0 := Aside0.mk (Kd.C_below C_y0.out bb)
    replace C_y1 := Aside0.mk (Kd.C_below C_y1.out bb)
    replace C_z0 := Aside0.mk (Kd.C_below C_z0.out bb)
    replace C_z1 := Aside0.mk (Kd.C_below C_z1.out bb)
    replace K_s := Aside0.mk (blk_below K_s.out bb)
    replace K_u := Aside0.mk (blk_below K_u.out bb)
    replace K_n := Aside0.mk (blk_below K_n.out bb)
    replace K_h := Aside0.mk (blk_below K_h.out bb)
    replace K_r := Aside0.mk (blk_below K_r.out bb)
    replace K_a := Aside0.mk (blk_below K_a.out bb)
    replace K_b := Aside0.mk (blk_below K_b.out bb)
    replace K_x := Aside0.mk (blk_below K_x.out bb)
    replace K_y := Aside0.mk (blk_below K_y.out bb)
    have K_z := Aside0.mk (blk_new w29 (.cells #[.slice A_z0 lz0.length c_z0, .slice A_z1 lz1.length c_z1] 26 (0, 0)))
    replace BW := Aside0.mk (below_then BW.out BW.out.size bb)
    clear bb
    go_cut [155] (fun v155 wc => v155 = .bool false ∧ Aside0 (Below (w29.alloc (.cells #[.slice A_z0 lz0.length c_z0, .slice A_z1 lz1.length c_z1] 26 (0, 0))).heap.size (w29.alloc (.cells #[.slice A_z0 lz0.length c_z0, .slice A_z1 lz1.length c_z1] 26 (0, 0))) wc))
    case first =>
      cases bs with
      | true =>
        have T6 := Aside0.mk (T5.out rfl)
        have hc_s0 : (w29.alloc (.cells #[.slice A_z0 lz0.length c_z0, .slice A_z1 lz1.length c_z1] 26 (0, 0))).cell? ⟨w2.heap.size, 0, none⟩ = some (.slice A_s0 ls0.length c_s0) := (blk_cell K_s.out 0).trans rfl
        have hf_s0 := blk_frozen K_s.out 0
        have hc_s1 : (w29.alloc (.cells #[.slice A_z0 lz0.length c_z0, .slice A_z1 lz1.length c_z1] 26 (0, 0))).cell? ⟨w2.heap.size, 1, none⟩ = some (.slice A_s1 ls1.length c_s1) := (blk_cell K_s.out 1).trans rfl
        have hf_s1 := blk_frozen K_s.out 1
        have hl_s : w2.heap.size < (w29.alloc (.cells #[.slice A_z0 lz0.length c_z0, .slice A_z1 lz1.length c_z1] 26 (0, 0))).heap.size := blk_lt K_s.out
        go_wp2_with fail
        refine (spec_ShapeText.calls k _ _ ls0 _ _ ls1 tx _ C_s0.out L_s0.out C_s1.out L_s1.out T3.out).mono ?_
        rintro e w30 ⟨rfl, b⟩
        clear hc_s0 hf_s0 hc_s1 hf_s1 hl_s
        have HB_w30 := Aside0.mk b
        clear b
        have hc_s0 : w30.cell? ⟨w2.heap.size, 0, none⟩ = some (.slice A_s0 ls0.length c_s0) := (blk_cell (blk_below K_s.out HB_w30.out) 0).trans rfl
        have hf_s0 := blk_frozen (blk_below K_s.out HB_w30.out) 0
        have hc_s1 : w30.cell? ⟨w2.heap.size, 1, none⟩ = some (.slice A_s1 ls1.length c_s1) := (blk_cell (blk_below K_s.out HB_w30.out) 1).trans rfl
        have hf_s1 := blk_frozen (blk_below K_s.out HB_w30.out) 1
        have hl_s : w2.heap.size < w30.heap.size := blk_lt (blk_below K_s.out HB_w30.out)
        go_wp2_with fail
        refine (spec_IsShape.calls k _ _ ls0 _ _ ls1 true _ (Kd.C_below C_s0.out HB_w30.out) L_s0.out (Kd.C_below C_s1.out HB_w30.out) L_s1.out S2.out).mono ?_
        rintro e w31 ⟨rfl, b⟩
        clear hc_s0 hf_s0 hc_s1 hf_s1 hl_s
        have HB_w31 := Aside0.mk (below_then HB_w30.out HB_w30.out.size b)
        clear b HB_w30
        have hc_s0 : w31.cell? ⟨w2.heap.size, 0, none⟩ = some (.slice A_s0 ls0.length c_s0) := (blk_cell (blk_below K_s.out HB_w31.out) 0).trans rfl
        have hf_s0 := blk_frozen (blk_below K_s.out HB_w31.out) 0
        have hc_s1 : w31.cell? ⟨w2.heap.size, 1, none⟩ = some (.slice A_s1 ls1.length c_s1) := (blk_cell (blk_below K_s.out HB_w31.out) 1).trans rfl
        have hf_s1 := blk_frozen (blk_below K_s.out HB_w31.out) 1
        have hl_s : w2.heap.size < w31.heap.size := blk_lt (blk_below K_s.out HB_w31.out)
        have hc_z0 : w31.cell? ⟨w29.heap.size, 0, none⟩ = some (.slice A_z0 lz0.length c_z0) := (blk_cell (blk_below K_z.out HB_w31.out) 0).trans rfl
        have hf_z0 := blk_frozen (blk_below K_z.out HB_w31.out) 0
        have hc_z1 : w31.cell? ⟨w29.heap.size, 1, none⟩ = some (.slice A_z1 lz1.length c_z1) := (blk_cell (blk_below K_z.out HB_w31.out) 1).trans rfl
        have hf_z1 := blk_frozen (blk_below K_z.out HB_w31.out) 1
        have hl_z : w29.heap.size < w31.heap.size := blk_lt (blk_below K_z.out HB_w31.out)
        go_wp2_with fail
        refine (spec_EqualShape.calls k _ _ lz0 _ _ lz1 _ _ ls0 _ _ ls1 true _ (Kd.C_below C_z0.out HB_w31.out) L_z0.out (Kd.C_below C_z1.out HB_w31.out) L_z1.out (Kd.C_below C_s0.out HB_w31.out) L_s0.out (Kd.C_below C_s1.out HB_w31.out) L_s1.out T6.out).mono ?_
        rintro e w32 ⟨rfl, b⟩
        clear hc_s0 hf_s0 hc_s1 hf_s1 hl_s hc_z0 hf_z0 hc_z1 hf_z1 hl_z
        have HB_w32 := Aside0.mk (below_then HB_w31.out HB_w31.out.size b)
        clear b HB_w31
        go_wp2_with fail
        go_meet
        case rel => exact ⟨by first | rfl | (simp; done), ⟨HB_w32.out⟩⟩
      | false =>
        have hc_s0 : (w29.alloc (.cells #[.slice A_z0 lz0.length c_z0, .slice A_z1 lz1.length c_z1] 26 (0, 0))).cell? ⟨w2.heap.size, 0, none⟩ = some (.slice A_s0 ls0.length c_s0) := (blk_cell K_s.out 0).trans rfl
        have hf_s0 := blk_frozen K_s.out 0
        have hc_s1 : (w29.alloc (.cells #[.slice A_z0 lz0.length c_z0, .slice A_z1 lz1.length c_z1] 26 (0, 0))).cell? ⟨w2.heap.size, 1, none⟩ = some (.slice A_s1 ls1.length c_s1) := (blk_cell K_s.out 1).trans rfl
        have hf_s1 := blk_frozen K_s.out 1
        have hl_s : w2.heap.size < (w29.alloc (.cells #[.slice A_z0 lz0.length c_z0, .slice A_z1 lz1.length c_z1] 26 (0, 0))).heap.size := blk_lt K_s.out
        go_wp2_with fail
        refine (spec_ShapeText.calls k _ _ ls0 _ _ ls1 tx _ C_s0.out L_s0.out C_s1.out L_s1.out T3.out).mono ?_
        rintro e w33 ⟨rfl, b⟩
        clear hc_s0 hf_s0 hc_s1 hf_s1 hl_s
        have HB_w33 := Aside0.mk b
        clear b
        have hc_s0 : w33.cell? ⟨w2.heap.size, 0, none⟩ = some (.slice A_s0 ls0.length c_s0) := (blk_cell (blk_below K_s.out HB_w33.out) 0).trans rfl
        have hf_s0 := blk_frozen (blk_below K_s.out HB_w33.out) 0
        have hc_s1 : w33.cell? ⟨w2.heap.size, 1, none⟩ = some (.slice A_s1 ls1.length c_s1) := (blk_cell (blk_below K_s.out HB_w33.out) 1).trans rfl
        have hf_s1 := blk_frozen (blk_below K_s.out HB_w33.out) 1
        have hl_s : w2.heap.size < w33.heap.size := blk_lt (blk_below K_s.out HB_w33.out)
        go_wp2_with fail
        refine (spec_IsShape.calls k _ _ ls0 _ _ ls1 false _ (Kd.C_below C_s0.out HB_w33.out) L_s0.out (Kd.C_below C_s1.out HB_w33.out) L_s1.out S2.out).mono ?_
        rintro e w34 ⟨rfl, b⟩
        clear hc_s0 hf_s0 hc_s1 hf_s1 hl_s
        have HB_w34 := Aside0.mk (below_then HB_w33.out HB_w33.out.size b)
        clear b HB_w33
        have hc_s0 : w34.cell? ⟨w2.heap.size, 0, none⟩ = some (.slice A_s0 ls0.length c_s0) := (blk_cell (blk_below K_s.out HB_w34.out) 0).trans rfl
        have hf_s0 := blk_frozen (blk_below K_s.out HB_w34.out) 0
        have hc_s1 : w34.cell? ⟨w2.heap.size, 1, none⟩ = some (.slice A_s1 ls1.length c_s1) := (blk_cell (blk_below K_s.out HB_w34.out) 1).trans rfl
        have hf_s1 := blk_frozen (blk_below K_s.out HB_w34.out) 1
        have hl_s : w2.heap.size < w34.heap.size := blk_lt (blk_below K_s.out HB_w34.out)
        have hc_z0 : w34.cell? ⟨w29.heap.size, 0, none⟩ = some (.slice A_z0 lz0.length c_z0) := (blk_cell (blk_below K_z.out HB_w34.out) 0).trans rfl
        have hf_z0 := blk_frozen (blk_below K_z.out HB_w34.out) 0
        have hc_z1 : w34.cell? ⟨w29.heap.size, 1, none⟩ = some (.slice A_z1 lz1.length c_z1) := (blk_cell (blk_below K_z.out HB_w34.out) 1).trans rfl
        have hf_z1 := blk_frozen (blk_below K_z.out HB_w34.out) 1
        have hl_z : w29.heap.size < w34.heap.size := blk_lt (blk_below K_z.out HB_w34.out)
        go_wp2_with fail
        clear hc_s0 hf_s0 hc_s1 hf_s1 hl_s hc_z0 hf_z0 hc_z1 hf_z1 hl_z
        go_meet
        case rel => exact ⟨by first | rfl | (simp; done), ⟨HB_w34.out⟩⟩
    case rest =>
      obtain ⟨rfl, HBc⟩ := hcut
      have hc_r0 : wc.cell? ⟨w6.heap.size, 0, none⟩ = some (.slice A_r0 lr0.length c_r0) := (blk_cell (blk_below K_r.out HBc.out) 0).trans rfl
      have hf_r0 := blk_frozen (blk_below K_r.out HBc.out) 0
      have hc_r1 : wc.cell? ⟨w6.heap.size, 1, none⟩ = some (.slice A_r1 lr1.length c_r1) := (blk_cell (blk_below K_r.out HBc.out) 1).trans rfl
      have hf_r1 := blk_frozen (blk_below K_r.out HBc.out) 1
      have hl_r : w6.heap.size < wc.heap.size := blk_lt (blk_below K_r.out HBc.out)
      go_wp2_with fail
      refine (spec_TurnShape.calls k _ _ lr0 _ _ lr1 lv0 lv1 bf _ (Kd.C_below C_r0.out HBc.out) L_r0.out (Kd.C_below C_r1.out HBc.out) L_r1.out W1.out).mono ?_
      rintro e w35 ⟨v_v0, v_v1, rfl, r_v0, r_v1, b⟩
      clear hc_r0 hf_r0 hc_r1 hf_r1 hl_r
      have bb := below_then HBc.out HBc.out.size b
      replace HR0 := Aside0.mk (Kd.C_below HR0.out bb)
      replace C_s0 := Aside0.mk (Kd.C_below C_s0.out bb)
      replace C_s1 := Aside0.mk (Kd.C_below C_s1.out bb)
      replace C_u0 := Aside0.mk (Kd.C_below C_u0.out bb)
      replace C_u1 := Aside0.mk (Kd.C_below C_u1.out bb)
      replace C_n0 := Aside0.mk (Kd.C_below C_n0.out bb)
      replace C_n1 := Aside0.mk (Kd.C_below C_n1.out bb)
      replace C_h0 := Aside0.mk (Kd.C_below C_h0.out bb)
      replace C_h1 := Aside0.mk (Kd.C_below C_h1.out bb)
      replace C_r0 := Aside0.mk (Kd.C_below C_r0.out bb)
      replace C_r1 := Aside0.mk (Kd.C_below C_r1.out bb)
      replace C_a0 := Aside0.mk (Kd.C_below C_a0.out bb)
      replace C_a1 := Aside0.mk (Kd.C_below C_a1.out bb)
      replace C_b0 := Aside0.mk (Kd.C_below C_b0.out bb)
      replace C_b1 := Aside0.mk (Kd.C_below C_b1.out bb)
      replace C_x0 := Aside0.mk (Kd.C_below C_x0.out bb)
      replace C_x1 := Aside0.mk (Kd.C_below C_x1.out bb)
      replace C_y0 := Aside0.mk (Kd.C_below C_y0.out bb)
      replace C_y1 := Aside0.mk (Kd.C_below C_y1.out bb)
      replace C_z0 := Aside0.mk (Kd.C_below C_z0.out bb)
      replace C_z1 := Aside0.mk (Kd.C_below C_z1.out bb)
      replace K_s := Aside0.mk (blk_below K_s.out bb)
      replace K_u := Aside0.mk (blk_below K_u.out bb)
      replace K_n := Aside0.mk (blk_below K_n.out bb)
      replace K_h := Aside0.mk (blk_below K_h.out bb)
      replace K_r := Aside0.mk (blk_below K_r.out bb)
      replace K_a := Aside0.mk (blk_below K_a.out bb)
      replace K_b := Aside0.mk (blk_below K_b.out bb)
      replace K_x := Aside0.mk (blk_below K_x.out bb)
      replace K_y := Aside0.mk (blk_below K_y.out bb)
      replace K_z := Aside0.mk (blk_below K_z.out bb)
      replace BW := Aside0.mk (below_then BW.out BW.out.size bb)
      clear bb HBc
      obtain ⟨A_v0, c_v0, rfl⟩ := Kd.R_slice r_v0
      have C_v0 := Aside0.mk (Kd.R_reads' r_v0).2.2
      have L_v0 := Aside0.mk (Kd.R_reads' r_v0).2.1
      obtain ⟨A_v1, c_v1, rfl⟩ := Kd.R_slice r_v1
      have C_v1 := Aside0.mk (Kd.R_reads' r_v1).2.2
      have L_v1 := Aside0.mk (Kd.R_reads' r_v1).2.1
      clear b r_v0 r_v1
      have hc_h0 : w35.cell? ⟨w5.heap.size, 0, none⟩ = some (.slice A_h0 lh0.length c_h0) := (blk_cell K_h.out 0).trans rfl
      have hf_h0 := blk_frozen K_h.out 0
      have hc_h1 : w35.cell? ⟨w5.heap.size, 1, none⟩ = some (.slice A_h1 lh1.length c_h1) := (blk_cell K_h.out 1).trans rfl
      have hf_h1 := blk_frozen K_h.out 1
      have hl_h : w5.heap.size < w35.heap.size := blk_lt K_h.out
      go_wp2_with fail
      refine (spec_TurnShape.calls k _ _ lh0 _ _ lh1 lq0 lq1 bw _ (Kd.C_below C_h0.out (below_alloc (Below.refl _ w35) (.cells #[.slice A_v0 lv0.length c_v0, .slice A_v1 lv1.length c_v1] 26 (0, 0)))) L_h0.out (Kd.C_below C_h1.out (below_alloc (Below.refl _ w35) (.cells #[.slice A_v0 lv0.length c_v0, .slice A_v1 lv1.length c_v1] 26 (0, 0)))) L_h1.out W2.out).mono ?_
      rintro e w36 ⟨v_q0, v_q1, rfl, r_q0, r_q1, b⟩
      clear hc_h0 hf_h0 hc_h1 hf_h1 hl_h
      have bb := below_then (below_alloc (Below.refl _ w35) (.cells #[.slice A_v0 lv0.length c_v0, .slice A_v1 lv1.length c_v1] 26 (0, 0))) (below_alloc (Below.refl _ w35) (.cells #[.slice A_v0 lv0.length c_v0, .slice A_v1 lv1.length c_v1] 26 (0, 0))).size b
      replace HR0 := Aside0.mk (Kd.C_below HR0.out bb)
      replace C_s0 := Aside0.mk (Kd.C_below C_s0.out bb)
      replace C_s1 := Aside0.mk (Kd.C_below C_s1.out bb)
      replace C_u0 := Aside0.mk (Kd.C_below C_u0.out bb)
      replace C_u1 := Aside0.mk (Kd.C_below C_u1.out bb)
      replace C_n0 := Aside0.mk (Kd.C_below C_n0.out bb)
      replace C_n1 := Aside0.mk (Kd.C_below C_n1.out bb)
      replace C_h0 := Aside0.mk (Kd.C_below C_h0.out bb)
      replace C_h1 := Aside0.mk (Kd.C_below C_h1.out bb)
      replace C_r0 := Aside0.mk (Kd.C_below C_r0.out bb)
      replace C_r1 := Aside0.mk (Kd.C_below C_r1.out bb)
      replace C_a0 := Aside0.mk (Kd.C_below C_a0.out bb)
      replace C_a1 := Aside0.mk (Kd.C_below C_a1.out bb)
      replace C_b0 := Aside0.mk (Kd.C_below C_b0.out bb)
      replace C_b1 := Aside0.mk (Kd.C_below C_b1.out bb)
      replace C_x0 := Aside0.mk (Kd.C_below C_x0.out bb)
      replace C_x1 := Aside0.mk (Kd.C_below C_x1.out bb)
      replace C_y0 := Aside0.mk (Kd.C_below C_y0.out bb)
      replace C_y1 := Aside0.mk (Kd.C_below C_y1.out bb)
      replace C_z0 := Aside0.mk (Kd.C_below C_z0.out bb)
      replace C_z1 := Aside0.mk (Kd.C_below C_z1.out bb)
      replace C_v0 := Aside0.mk (Kd.C_below C_v0.out bb)
      replace C_v1 := Aside0.mk (Kd.C_below C_v1.out bb)
      replace K_s := Aside0.mk (blk_below K_s.out bb)
      replace K_u := Aside0.mk (blk_below K_u.out bb)
      replace K_n := Aside0.mk (blk_below K_n.out bb)
      replace K_h := Aside0.mk (blk_below K_h.out bb)
      replace K_r := Aside0.mk (blk_below K_r.out bb)
      replace K_a := Aside0.mk (blk_below K_a.out bb)
      replace K_b := Aside0.mk (blk_below K_b.out bb)
      replace K_x := Aside0.mk (blk_below K_x.out bb)
      replace K_y := Aside0.mk (blk_below K_y.out bb)
      replace K_z := Aside0.mk (blk_below K_z.out bb)
      have K_v := Aside0.mk (blk_below (blk_new w35 (.cells #[.slice A_v0 lv0.length c_v0, .slice A_v1 lv1.length c_v1] 26 (0, 0))) b)
      replace BW := Aside0.mk (below_then BW.out BW.out.size bb)
      clear bb
      obtain ⟨A_q0, c_q0, rfl⟩ := Kd.R_slice r_q0
      have C_q0 := Aside0.mk (Kd.R_reads' r_q0).2.2
      have L_q0 := Aside0.mk (Kd.R_reads' r_q0).2.1
      obtain ⟨A_q1, c_q1, rfl⟩ := Kd.R_slice r_q1
      have C_q1 := Aside0.mk (Kd.R_reads' r_q1).2.2
      have L_q1 := Aside0.mk (Kd.R_reads' r_q1).2.1
      clear b r_q0 r_q1
      go_upto_region 20 with fail
      try simp only [Act.put, List.setIfInBounds_toArray, List.set_cons_zero, List.set_cons_succ]
      have bb := (below_alloc (Below.refl _ w36) (.cells #[.slice A_q0 lq0.length c_q0, .slice A_q1 lq1.length c_q1] 26 (0, 0)))
      replace HR0 := Aside0.mk (Kd.C_below HR0.out bb)
      replace C_s0 := Aside0.mk (Kd.C_below C_s0.out bb)
      replace C_s1 := Aside0.mk (Kd.C_below C_s1.out bb)
      replace C_u0 := Aside0.mk (Kd.C_below C_u0.out bb)
      replace C_u1 := Aside0.mk (Kd.C_below C_u1.out bb)
      replace C_n0 := Aside0.mk (Kd.C_below C_n0.out bb)
      replace C_n1 := Aside0.mk (Kd.C_below C_n1.out bb)
      replace C_h0 := Aside0.mk (Kd.C_below C_h0.out bb)
      replace C_h1 := Aside0.mk (Kd.C_below C_h1.out bb)
      replace C_r0 := Aside0.mk (Kd.C_below C_r0.out bb)
      replace C_r1 := Aside0.mk (Kd.C_below C_r1.out bb)
      replace C_a0 := Aside0.mk (Kd.C_below C_a0.out bb)
      replace C_a1 := Aside0.mk (Kd.C_below C_a1.out bb)
      replace C_b0 := Aside0.mk (Kd.C_below C_b0.out bb)
      replace C_b1 := Aside0.mk (Kd.C_below C_b1.out bb)
      replace C_x0 := Aside0.mk (Kd.C_below C_x0.out bb)
      replace C_x1 := Aside0.mk (Kd.C_below C_x1.out bb)
      replace C_y0 := Aside0.mk (Kd.C_below C_y0.out bb)
      replace C_y1 := Aside0.mk (Kd.C_below C_y1.out bb)
      replace C_z0 := Aside0.mk (Kd.C_below C_z0.out bb)
      replace C_z1 := Aside0.mk (Kd.C_below C_z1.out bb)
      replace C_v0 := Aside0.mk (Kd.C_below C_v0.out bb)
      replace C_v1 := Aside0.mk (Kd.C_below C_v1.out bb)
      replace C_q0 := Aside0.mk (Kd.C_below C_q0.out bb)
      replace C_q1 := Aside0.mk (Kd.C_below C_q1.out bb)
      replace K_s := Aside0.mk (blk_below K_s.out bb)
      replace K_u := Aside0.mk (blk_below K_u.out bb)
      replace K_n := Aside0.mk (blk_below K_n.out bb)
      replace K_h := Aside0.mk (blk_below K_h.out bb)
      replace K_r := Aside0.mk (blk_below K_r.out bb)
      replace K_a := Aside0.mk (blk_below K_a.out bb)
      replace K_b := Aside0.mk (blk_below K_b.out bb)
      replace K_x := Aside0.mk (blk_below K_x.out bb)
      replace K_y := Aside0.mk (blk_below K_y.out bb)
      replace K_z := Aside0.mk (blk_below K_z.out bb)
      replace K_v := Aside0.mk (blk_below K_v.out bb)
      have K_q := Aside0.mk (blk_new w36 (.cells #[.slice A_q0 lq0.length c_q0, .slice A_q1 lq1.length c_q1] 26 (0, 0)))
      replace BW := Aside0.mk (below_then BW.out BW.out.size bb)
      clear bb
      go_cut [183] (fun v183 wc => v183 = .bool false ∧ Aside0 (Below (w36.alloc (.cells #[.slice A_q0 lq0.length c_q0, .slice A_q1 lq1.length c_q1] 26 (0, 0))).heap.size (w36.alloc (.cells #[.slice A_q0 lq0.length c_q0, .slice A_q1 lq1.length c_q1] 26 (0, 0))) wc))
      case first =>
        cases bf with
        | true =>
          cases bw with
          | true =>
            have W5 := Aside0.mk (W3.out rfl)
            have W6 := Aside0.mk (W4.out rfl)
            refine start_ (n := 18) (S := fun w' => Below (w36.alloc (.cells #[.slice A_q0 lq0.length c_q0, .slice A_q1 lq1.length c_q1] 26 (0, 0))).heap.size (w36.alloc (.cells #[.slice A_q0 lq0.length c_q0, .slice A_q1 lq1.length c_q1] 26 (0, 0))) w') (ds := []) (tf 18 0) (by kernel_rfl) rfl rfl (by apply below_drew1; exact (Below.refl _ (w36.alloc (.cells #[.slice A_q0 lq0.length c_q0, .slice A_q1 lq1.length c_q1] 26 (0, 0))))) (fun hHeld => ?_); refine with_tabW laws_FnShapes.tab20 laws_FnShapes.bits20 (fun HT_ HW_ => ?_)
            generalize (w36.alloc (.cells #[.slice A_q0 lq0.length c_q0, .slice A_q1 lq1.length c_q1] 26 (0, 0))).drew = w37 at hHeld ⊢
            have HB_w37 := Aside0.mk hHeld
            refine pure1 0 166 (tf 18 1) (any_of HT_.out (by kernel_rfl)) ?_
            refine pure1 1 167 (tf 18 2) (any_of HT_.out (by kernel_rfl)) ?_
            refine take1 2 168 (.agg #[.slice A_v0 lv0.length c_v0, .slice A_v1 lv1.length c_v1]) (tf 18 3) (take_ofW HT_.out HW_.out (by kernel_rfl)) hHeld rfl (by intro w' hS_; have s0 : w'.cell? ⟨w35.heap.size, 0, none⟩ = some (.slice A_v0 lv0.length c_v0) := (blk_cell (blk_below K_v.out hS_) 0).trans rfl; have s1 : w'.cell? ⟨w35.heap.size, 1, none⟩ = some (.slice A_v1 lv1.length c_v1) := (blk_cell (blk_below K_v.out hS_) 1).trans rfl; go_simp; (try with_reducible rfl)) ?_
            refine take1 4 170 (.agg #[.slice A_r0 lr0.length c_r0, .slice A_r1 lr1.length c_r1]) #[true, true, true, false, true, false, false, false, false, false, false, false, false, false, false, false, false, false] (take_ofW HT_.out HW_.out (by kernel_rfl)) hHeld rfl (by intro w' hS_; have s0 : w'.cell? ⟨w6.heap.size, 0, none⟩ = some (.slice A_r0 lr0.length c_r0) := (blk_cell (blk_below K_r.out hS_) 0).trans rfl; have s1 : w'.cell? ⟨w6.heap.size, 1, none⟩ = some (.slice A_r1 lr1.length c_r1) := (blk_cell (blk_below K_r.out hS_) 1).trans rfl; go_simp; (try with_reducible rfl)) ?_
            refine one_ (i := 3) (N := some 169) (tf 18 5) rfl rfl (one_of HT_.out (by kernel_rfl)) (by decide) (fun K hK => ?_)
            refine goes_ Tryz.func19 (by kernel_rfl) rfl #[.agg #[.slice A_v0 lv0.length c_v0, .slice A_v1 lv1.length c_v1]] (by rfl) rfl rfl lm ?_
            refine (impl_IsRibbon.calls k _ _ lv0 _ _ lv1 br _ (Kd.C_below C_v0.out HB_w37.out) L_v0.out (Kd.C_below C_v1.out HB_w37.out) L_v1.out W5.out).mono ?_
            rintro e w38 ⟨rfl, b⟩
            refine ⟨_, rfl, ?_⟩
            have HB_w38 := Aside0.mk (below_then HB_w37.out HB_w37.out.size b)
            clear b HB_w37 hHeld
            refine hK.out _ _ HB_w38.out (fun hHeld => ?_); clear hK K; refine norm1 169 ?_
            refine one_ (i := 5) (N := some 171) (tf 18 6) rfl rfl (one_of HT_.out (by kernel_rfl)) (by decide) (fun K hK => ?_)
            refine goes_ Tryz.func19 (by kernel_rfl) rfl #[.agg #[.slice A_r0 lr0.length c_r0, .slice A_r1 lr1.length c_r1]] (by rfl) rfl rfl lm ?_
            refine (impl_IsRibbon.calls k _ _ lr0 _ _ lr1 br _ (Kd.C_below C_r0.out HB_w38.out) L_r0.out (Kd.C_below C_r1.out HB_w38.out) L_r1.out R1.out).mono ?_
            rintro e w39 ⟨rfl, b⟩
            refine ⟨_, rfl, ?_⟩
            have HB_w39 := Aside0.mk (below_then HB_w38.out HB_w38.out.size b)
            clear b HB_w38 hHeld
            refine hK.out _ _ HB_w39.out (fun hHeld => ?_); clear hK K; refine norm1 171 ?_
            refine pure1 6 172 (tf 18 7) (any_of HT_.out (by kernel_rfl)) ?_
            refine pure1 7 173 (tf 18 8) (any_of HT_.out (by kernel_rfl)) ?_
            refine pure1 8 174 (tf 18 9) (any_of HT_.out (by kernel_rfl)) ?_
            refine pure1 9 175 (tf 18 10) (any_of HT_.out (by kernel_rfl)) ?_
            refine pure1 10 176 (tf 18 11) (any_of HT_.out (by kernel_rfl)) ?_
            refine take1 11 177 (.agg #[.slice A_q0 lq0.length c_q0, .slice A_q1 lq1.length c_q1]) (tf 18 12) (take_ofW HT_.out HW_.out (by kernel_rfl)) hHeld rfl (by intro w' hS_; have s0 : w'.cell? ⟨w36.heap.size, 0, none⟩ = some (.slice A_q0 lq0.length c_q0) := (blk_cell (blk_below K_q.out hS_) 0).trans rfl; have s1 : w'.cell? ⟨w36.heap.size, 1, none⟩ = some (.slice A_q1 lq1.length c_q1) := (blk_cell (blk_below K_q.out hS_) 1).trans rfl; go_simp; (try with_reducible rfl)) ?_
            refine take1 13 179 (.agg #[.slice A_h0 lh0.length c_h0, .slice A_h1 lh1.length c_h1]) #[true, true, true, true, true, true, true, true, true, true, true, true, false, true, false, false, false, false] (take_ofW HT_.out HW_.out (by kernel_rfl)) hHeld rfl (by intro w' hS_; have s0 : w'.cell? ⟨w5.heap.size, 0, none⟩ = some (.slice A_h0 lh0.length c_h0) := (blk_cell (blk_below K_h.out hS_) 0).trans rfl; have s1 : w'.cell? ⟨w5.heap.size, 1, none⟩ = some (.slice A_h1 lh1.length c_h1) := (blk_cell (blk_below K_h.out hS_) 1).trans rfl; go_simp; (try with_reducible rfl)) ?_
            refine one_ (i := 12) (N := some 178) (tf 18 14) rfl rfl (one_of HT_.out (by kernel_rfl)) (by decide) (fun K hK => ?_)
            refine goes_ Tryz.func17 (by kernel_rfl) rfl #[.agg #[.slice A_q0 lq0.length c_q0, .slice A_q1 lq1.length c_q1]] (by rfl) rfl rfl lm ?_
            refine (impl_IsVerticalStrip.calls k _ _ lq0 _ _ lq1 bh _ (Kd.C_below C_q0.out HB_w39.out) L_q0.out (Kd.C_below C_q1.out HB_w39.out) L_q1.out W6.out).mono ?_
            rintro e w40 ⟨rfl, b⟩
            refine ⟨_, rfl, ?_⟩
            have HB_w40 := Aside0.mk (below_then HB_w39.out HB_w39.out.size b)
            clear b HB_w39 hHeld
            refine hK.out _ _ HB_w40.out (fun hHeld => ?_); clear hK K; refine norm1 178 ?_
            refine one_ (i := 14) (N := some 180) (tf 18 15) rfl rfl (one_of HT_.out (by kernel_rfl)) (by decide) (fun K hK => ?_)
            refine goes_ Tryz.func15 (by kernel_rfl) rfl #[.agg #[.slice A_h0 lh0.length c_h0, .slice A_h1 lh1.length c_h1]] (by rfl) rfl rfl lm ?_
            refine (impl_IsHorizontalStrip.calls k _ _ lh0 _ _ lh1 bh _ (Kd.C_below C_h0.out HB_w40.out) L_h0.out (Kd.C_below C_h1.out HB_w40.out) L_h1.out H1.out).mono ?_
            rintro e w41 ⟨rfl, b⟩
            refine ⟨_, rfl, ?_⟩
            have HB_w41 := Aside0.mk (below_then HB_w40.out HB_w40.out.size b)
            clear b HB_w40 hHeld
            refine hK.out _ _ HB_w41.out (fun hHeld => ?_); clear hK K; refine norm1 180 ?_
            refine pure1 15 181 (tf 18 16) (any_of HT_.out (by kernel_rfl)) ?_
            refine pure1 16 182 (tf 18 17) (any_of HT_.out (by kernel_rfl)) ?_
            refine pure1 17 183 (tf 18 18) (any_of HT_.out (by kernel_rfl)) ?_
            refine done_ (done_of HT_.out (by kernel_rfl)) ?_
            clear HT_ HW_ hHeld
            try go_wp2
            go_meet
            case rel => exact ⟨by first | rfl | (simp; done), ⟨HB_w41.out⟩⟩
          | false =>
            have W5 := Aside0.mk (W3.out rfl)
            refine start_ (n := 18) (S := fun w' => Below (w36.alloc (.cells #[.slice A_q0 lq0.length c_q0, .slice A_q1 lq1.length c_q1] 26 (0, 0))).heap.size (w36.alloc (.cells #[.slice A_q0 lq0.length c_q0, .slice A_q1 lq1.length c_q1] 26 (0, 0))) w') (ds := []) (tf 18 0) (by kernel_rfl) rfl rfl (by apply below_drew1; exact (Below.refl _ (w36.alloc (.cells #[.slice A_q0 lq0.length c_q0, .slice A_q1 lq1.length c_q1] 26 (0, 0))))) (fun hHeld => ?_); refine with_tabW laws_FnShapes.tab20 laws_FnShapes.bits20 (fun HT_ HW_ => ?_)
            generalize (w36.alloc (.cells #[.slice A_q0 lq0.length c_q0, .slice A_q1 lq1.length c_q1] 26 (0, 0))).drew = w42 at hHeld ⊢
            have HB_w42 := Aside0.mk hHeld
            refine pure1 0 166 (tf 18 1) (any_of HT_.out (by kernel_rfl)) ?_
            refine pure1 1 167 (tf 18 2) (any_of HT_.out (by kernel_rfl)) ?_
            refine take1 2 168 (.agg #[.slice A_v0 lv0.length c_v0, .slice A_v1 lv1.length c_v1]) (tf 18 3) (take_ofW HT_.out HW_.out (by kernel_rfl)) hHeld rfl (by intro w' hS_; have s0 : w'.cell? ⟨w35.heap.size, 0, none⟩ = some (.slice A_v0 lv0.length c_v0) := (blk_cell (blk_below K_v.out hS_) 0).trans rfl; have s1 : w'.cell? ⟨w35.heap.size, 1, none⟩ = some (.slice A_v1 lv1.length c_v1) := (blk_cell (blk_below K_v.out hS_) 1).trans rfl; go_simp; (try with_reducible rfl)) ?_
            refine take1 4 170 (.agg #[.slice A_r0 lr0.length c_r0, .slice A_r1 lr1.length c_r1]) #[true, true, true, false, true, false, false, false, false, false, false, false, false, false, false, false, false, false] (take_ofW HT_.out HW_.out (by kernel_rfl)) hHeld rfl (by intro w' hS_; have s0 : w'.cell? ⟨w6.heap.size, 0, none⟩ = some (.slice A_r0 lr0.length c_r0) := (blk_cell (blk_below K_r.out hS_) 0).trans rfl; have s1 : w'.cell? ⟨w6.heap.size, 1, none⟩ = some (.slice A_r1 lr1.length c_r1) := (blk_cell (blk_below K_r.out hS_) 1).trans rfl; go_simp; (try with_reducible rfl)) ?_
            refine one_ (i := 3) (N := some 169) (tf 18 5) rfl rfl (one_of HT_.out (by kernel_rfl)) (by decide) (fun K hK => ?_)
            refine goes_ Tryz.func19 (by kernel_rfl) rfl #[.agg #[.slice A_v0 lv0.length c_v0, .slice A_v1 lv1.length c_v1]] (by rfl) rfl rfl lm ?_
            refine (impl_IsRibbon.calls k _ _ lv0 _ _ lv1 br _ (Kd.C_below C_v0.out HB_w42.out) L_v0.out (Kd.C_below C_v1.out HB_w42.out) L_v1.out W5.out).mono ?_
            rintro e w43 ⟨rfl, b⟩
            refine ⟨_, rfl, ?_⟩
            have HB_w43 := Aside0.mk (below_then HB_w42.out HB_w42.out.size b)
            clear b HB_w42 hHeld
            refine hK.out _ _ HB_w43.out (fun hHeld => ?_); clear hK K; refine norm1 169 ?_
            refine one_ (i := 5) (N := some 171) (tf 18 6) rfl rfl (one_of HT_.out (by kernel_rfl)) (by decide) (fun K hK => ?_)
            refine goes_ Tryz.func19 (by kernel_rfl) rfl #[.agg #[.slice A_r0 lr0.length c_r0, .slice A_r1 lr1.length c_r1]] (by rfl) rfl rfl lm ?_
            refine (impl_IsRibbon.calls k _ _ lr0 _ _ lr1 br _ (Kd.C_below C_r0.out HB_w43.out) L_r0.out (Kd.C_below C_r1.out HB_w43.out) L_r1.out R1.out).mono ?_
            rintro e w44 ⟨rfl, b⟩
            refine ⟨_, rfl, ?_⟩
            have HB_w44 := Aside0.mk (below_then HB_w43.out HB_w43.out.size b)
            clear b HB_w43 hHeld
            refine hK.out _ _ HB_w44.out (fun hHeld => ?_); clear hK K; refine norm1 171 ?_
            refine pure1 6 172 (tf 18 7) (any_of HT_.out (by kernel_rfl)) ?_
            refine pure1 7 173 (tf 18 8) (any_of HT_.out (by kernel_rfl)) ?_
            refine pure1 8 174 (tf 18 9) (any_of HT_.out (by kernel_rfl)) ?_
            refine pure1 9 175 (tf 18 10) (any_of HT_.out (by kernel_rfl)) ?_
            refine pure1 10 176 (tf 18 11) (any_of HT_.out (by kernel_rfl)) ?_
            refine pure2 11 177 (tf 18 12) (any_of HT_.out (by kernel_rfl)) ?_
            refine pure2 12 178 (tf 18 13) (any_of HT_.out (by kernel_rfl)) ?_
            refine pure2 13 179 (tf 18 14) (any_of HT_.out (by kernel_rfl)) ?_
            refine pure2 14 180 (tf 18 15) (any_of HT_.out (by kernel_rfl)) ?_
            refine pure2 15 181 (tf 18 16) (any_of HT_.out (by kernel_rfl)) ?_
            refine pure1 16 182 (tf 18 17) (any_of HT_.out (by kernel_rfl)) ?_
            refine pure1 17 183 (tf 18 18) (any_of HT_.out (by kernel_rfl)) ?_
            refine done_ (done_of HT_.out (by kernel_rfl)) ?_
            clear HT_ HW_ hHeld
            try go_wp2
            go_meet
            case rel => exact ⟨by first | rfl | (simp; done), ⟨HB_w44.out⟩⟩
        | false =>
          cases bw with
          | true =>
            have W6 := Aside0.mk (W4.out rfl)
            refine start_ (n := 18) (S := fun w' => Below (w36.alloc (.cells #[.slice A_q0 lq0.length c_q0, .slice A_q1 lq1.length c_q1] 26 (0, 0))).heap.size (w36.alloc (.cells #[.slice A_q0 lq0.length c_q0, .slice A_q1 lq1.length c_q1] 26 (0, 0))) w') (ds := []) (tf 18 0) (by kernel_rfl) rfl rfl (by apply below_drew1; exact (Below.refl _ (w36.alloc (.cells #[.slice A_q0 lq0.length c_q0, .slice A_q1 lq1.length c_q1] 26 (0, 0))))) (fun hHeld => ?_); refine with_tabW laws_FnShapes.tab20 laws_FnShapes.bits20 (fun HT_ HW_ => ?_)
            generalize (w36.alloc (.cells #[.slice A_q0 lq0.length c_q0, .slice A_q1 lq1.length c_q1] 26 (0, 0))).drew = w45 at hHeld ⊢
            have HB_w45 := Aside0.mk hHeld
            refine pure1 0 166 (tf 18 1) (any_of HT_.out (by kernel_rfl)) ?_
            refine pure1 1 167 (tf 18 2) (any_of HT_.out (by kernel_rfl)) ?_
            refine pure2 2 168 (tf 18 3) (any_of HT_.out (by kernel_rfl)) ?_
            refine pure2 3 169 (tf 18 4) (any_of HT_.out (by kernel_rfl)) ?_
            refine pure2 4 170 (tf 18 5) (any_of HT_.out (by kernel_rfl)) ?_
            refine pure2 5 171 (tf 18 6) (any_of HT_.out (by kernel_rfl)) ?_
            refine pure2 6 172 (tf 18 7) (any_of HT_.out (by kernel_rfl)) ?_
            refine pure1 7 173 (tf 18 8) (any_of HT_.out (by kernel_rfl)) ?_
            refine pure1 8 174 (tf 18 9) (any_of HT_.out (by kernel_rfl)) ?_
            refine pure1 9 175 (tf 18 10) (any_of HT_.out (by kernel_rfl)) ?_
            refine pure1 10 176 (tf 18 11) (any_of HT_.out (by kernel_rfl)) ?_
            refine take1 11 177 (.agg #[.slice A_q0 lq0.length c_q0, .slice A_q1 lq1.length c_q1]) (tf 18 12) (take_ofW HT_.out HW_.out (by kernel_rfl)) hHeld rfl (by intro w' hS_; have s0 : w'.cell? ⟨w36.heap.size, 0, none⟩ = some (.slice A_q0 lq0.length c_q0) := (blk_cell (blk_below K_q.out hS_) 0).trans rfl; have s1 : w'.cell? ⟨w36.heap.size, 1, none⟩ = some (.slice A_q1 lq1.length c_q1) := (blk_cell (blk_below K_q.out hS_) 1).trans rfl; go_simp; (try with_reducible rfl)) ?_
            refine take1 13 179 (.agg #[.slice A_h0 lh0.length c_h0, .slice A_h1 lh1.length c_h1]) #[true, true, true, true, true, true, true, true, true, true, true, true, false, true, false, false, false, false] (take_ofW HT_.out HW_.out (by kernel_rfl)) hHeld rfl (by intro w' hS_; have s0 : w'.cell? ⟨w5.heap.size, 0, none⟩ = some (.slice A_h0 lh0.length c_h0) := (blk_cell (blk_below K_h.out hS_) 0).trans rfl; have s1 : w'.cell? ⟨w5.heap.size, 1, none⟩ = some (.slice A_h1 lh1.length c_h1) := (blk_cell (blk_below K_h.out hS_) 1).trans rfl; go_simp; (try with_reducible rfl)) ?_
            refine one_ (i := 12) (N := some 178) (tf 18 14) rfl rfl (one_of HT_.out (by kernel_rfl)) (by decide) (fun K hK => ?_)
            refine goes_ Tryz.func17 (by kernel_rfl) rfl #[.agg #[.slice A_q0 lq0.length c_q0, .slice A_q1 lq1.length c_q1]] (by rfl) rfl rfl lm ?_
            refine (impl_IsVerticalStrip.calls k _ _ lq0 _ _ lq1 bh _ (Kd.C_below C_q0.out HB_w45.out) L_q0.out (Kd.C_below C_q1.out HB_w45.out) L_q1.out W6.out).mono ?_
            rintro e w46 ⟨rfl, b⟩
            refine ⟨_, rfl, ?_⟩
            have HB_w46 := Aside0.mk (below_then HB_w45.out HB_w45.out.size b)
            clear b HB_w45 hHeld
            refine hK.out _ _ HB_w46.out (fun hHeld => ?_); clear hK K; refine norm1 178 ?_
            refine one_ (i := 14) (N := some 180) (tf 18 15) rfl rfl (one_of HT_.out (by kernel_rfl)) (by decide) (fun K hK => ?_)
            refine goes_ Tryz.func15 (by kernel_rfl) rfl #[.agg #[.slice A_h0 lh0.length c_h0, .slice A_h1 lh1.length c_h1]] (by rfl) rfl rfl lm ?_
            refine (impl_IsHorizontalStrip.calls k _ _ lh0 _ _ lh1 bh _ (Kd.C_below C_h0.out HB_w46.out) L_h0.out (Kd.C_below C_h1.out HB_w46.out) L_h1.out H1.out).mono ?_
            rintro e w47 ⟨rfl, b⟩
            refine ⟨_, rfl, ?_⟩
            have HB_w47 := Aside0.mk (below_then HB_w46.out HB_w46.out.size b)
            clear b HB_w46 hHeld
            refine hK.out _ _ HB_w47.out (fun hHeld => ?_); clear hK K; refine norm1 180 ?_
            refine pure1 15 181 (tf 18 16) (any_of HT_.out (by kernel_rfl)) ?_
            refine pure1 16 182 (tf 18 17) (any_of HT_.out (by kernel_rfl)) ?_
            refine pure1 17 183 (tf 18 18) (any_of HT_.out (by kernel_rfl)) ?_
            refine done_ (done_of HT_.out (by kernel_rfl)) ?_
            clear HT_ HW_ hHeld
            try go_wp2
            go_meet
            case rel => exact ⟨by first | rfl | (simp; done), ⟨HB_w47.out⟩⟩
          | false =>
            refine start_ (n := 18) (S := fun w' => Below (w36.alloc (.cells #[.slice A_q0 lq0.length c_q0, .slice A_q1 lq1.length c_q1] 26 (0, 0))).heap.size (w36.alloc (.cells #[.slice A_q0 lq0.length c_q0, .slice A_q1 lq1.length c_q1] 26 (0, 0))) w') (ds := []) (tf 18 0) (by kernel_rfl) rfl rfl (by apply below_drew1; exact (Below.refl _ (w36.alloc (.cells #[.slice A_q0 lq0.length c_q0, .slice A_q1 lq1.length c_q1] 26 (0, 0))))) (fun hHeld => ?_); refine with_tabW laws_FnShapes.tab20 laws_FnShapes.bits20 (fun HT_ HW_ => ?_)
            generalize (w36.alloc (.cells #[.slice A_q0 lq0.length c_q0, .slice A_q1 lq1.length c_q1] 26 (0, 0))).drew = w48 at hHeld ⊢
            have HB_w48 := Aside0.mk hHeld
            refine pure1 0 166 (tf 18 1) (any_of HT_.out (by kernel_rfl)) ?_
            refine pure1 1 167 (tf 18 2) (any_of HT_.out (by kernel_rfl)) ?_
            refine pure2 2 168 (tf 18 3) (any_of HT_.out (by kernel_rfl)) ?_
            refine pure2 3 169 (tf 18 4) (any_of HT_.out (by kernel_rfl)) ?_
            refine pure2 4 170 (tf 18 5) (any_of HT_.out (by kernel_rfl)) ?_
            refine pure2 5 171 (tf 18 6) (any_of HT_.out (by kernel_rfl)) ?_
            refine pure2 6 172 (tf 18 7) (any_of HT_.out (by kernel_rfl)) ?_
            refine pure1 7 173 (tf 18 8) (any_of HT_.out (by kernel_rfl)) ?_
            refine pure1 8 174 (tf 18 9) (any_of HT_.out (by kernel_rfl)) ?_
            refine pure1 9 175 (tf 18 10) (any_of HT_.out (by kernel_rfl)) ?_
            refine pure1 10 176 (tf 18 11) (any_of HT_.out (by kernel_rfl)) ?_
            refine pure2 11 177 (tf 18 12) (any_of HT_.out (by kernel_rfl)) ?_
            refine pure2 12 178 (tf 18 13) (any_of HT_.out (by kernel_rfl)) ?_
            refine pure2 13 179 (tf 18 14) (any_of HT_.out (by kernel_rfl)) ?_
            refine pure2 14 180 (tf 18 15) (any_of HT_.out (by kernel_rfl)) ?_
            refine pure2 15 181 (tf 18 16) (any_of HT_.out (by kernel_rfl)) ?_
            refine pure1 16 182 (tf 18 17) (any_of HT_.out (by kernel_rfl)) ?_
            refine pure1 17 183 (tf 18 18) (any_of HT_.out (by kernel_rfl)) ?_
            refine done_ (done_of HT_.out (by kernel_rfl)) ?_
            clear HT_ HW_ hHeld
            try go_wp2
            go_meet
            case rel => exact ⟨by first | rfl | (simp; done), ⟨HB_w48.out⟩⟩
      case rest =>
        obtain ⟨rfl, HBc⟩ := hcut
        go_upto_region 22 with fail
        try simp only [Act.put, List.setIfInBounds_toArray, List.set_cons_zero, List.set_cons_succ]
        cases br with
        | false =>
          refine start_ (n := 18) (S := fun w' => Below (w36.alloc (.cells #[.slice A_q0 lq0.length c_q0, .slice A_q1 lq1.length c_q1] 26 (0, 0))).heap.size (w36.alloc (.cells #[.slice A_q0 lq0.length c_q0, .slice A_q1 lq1.length c_q1] 26 (0, 0))) w') (ds := []) (tf 18 0) (by kernel_rfl) rfl rfl (by apply below_drew1; exact HBc.out) (fun hHeld => ?_); refine with_tabW laws_FnShapes.tab22 laws_FnShapes.bits22 (fun HT_ HW_ => ?_)
          generalize wc.drew = w49 at hHeld ⊢
          have HB_w49 := Aside0.mk hHeld
          clear HBc
          refine take1 0 184 (.agg #[.slice A_r0 lr0.length c_r0, .slice A_r1 lr1.length c_r1]) (tf 18 1) (take_ofW HT_.out HW_.out (by kernel_rfl)) hHeld rfl (by intro w' hS_; have s0 : w'.cell? ⟨w6.heap.size, 0, none⟩ = some (.slice A_r0 lr0.length c_r0) := (blk_cell (blk_below K_r.out hS_) 0).trans rfl; have s1 : w'.cell? ⟨w6.heap.size, 1, none⟩ = some (.slice A_r1 lr1.length c_r1) := (blk_cell (blk_below K_r.out hS_) 1).trans rfl; go_simp; (try with_reducible rfl)) ?_
          refine one_ (i := 1) (N := some 185) (tf 18 2) rfl rfl (one_of HT_.out (by kernel_rfl)) (by decide) (fun K hK => ?_)
          refine goes_ Tryz.func19 (by kernel_rfl) rfl #[.agg #[.slice A_r0 lr0.length c_r0, .slice A_r1 lr1.length c_r1]] (by rfl) rfl rfl lm ?_
          refine (impl_IsRibbon.calls k _ _ lr0 _ _ lr1 false _ (Kd.C_below C_r0.out HB_w49.out) L_r0.out (Kd.C_below C_r1.out HB_w49.out) L_r1.out R1.out).mono ?_
          rintro e w50 ⟨rfl, b⟩
          refine ⟨_, rfl, ?_⟩
          have HB_w50 := Aside0.mk (below_then HB_w49.out HB_w49.out.size b)
          clear b HB_w49 hHeld
          refine hK.out _ _ HB_w50.out (fun hHeld => ?_); clear hK K; refine norm1 185 ?_
          refine pure1 2 186 (tf 18 3) (any_of HT_.out (by kernel_rfl)) ?_
          refine pure1 3 187 (tf 18 4) (any_of HT_.out (by kernel_rfl)) ?_
          refine pure2 4 188 (tf 18 5) (any_of HT_.out (by kernel_rfl)) ?_
          refine pure2 5 189 (tf 18 6) (any_of HT_.out (by kernel_rfl)) ?_
          refine pure2 6 190 (tf 18 7) (any_of HT_.out (by kernel_rfl)) ?_
          refine pure2 7 191 (tf 18 8) (any_of HT_.out (by kernel_rfl)) ?_
          refine pure2 8 192 (tf 18 9) (any_of HT_.out (by kernel_rfl)) ?_
          refine pure2 9 193 (tf 18 10) (any_of HT_.out (by kernel_rfl)) ?_
          refine pure2 10 194 (tf 18 11) (any_of HT_.out (by kernel_rfl)) ?_
          refine pure2 11 195 (tf 18 12) (any_of HT_.out (by kernel_rfl)) ?_
          refine pure2 12 196 (tf 18 13) (any_of HT_.out (by kernel_rfl)) ?_
          refine pure2 13 197 (tf 18 14) (any_of HT_.out (by kernel_rfl)) ?_
          refine pure2 14 198 (tf 18 15) (any_of HT_.out (by kernel_rfl)) ?_
          refine pure2 15 199 (tf 18 16) (any_of HT_.out (by kernel_rfl)) ?_
          refine pure1 16 200 (tf 18 17) (any_of HT_.out (by kernel_rfl)) ?_
          refine pure1 17 2 (tf 18 18) (any_of HT_.out (by kernel_rfl)) ?_
          refine done_ (done_of HT_.out (by kernel_rfl)) ?_
          clear HT_ HW_ hHeld
          try go_wp2
          go_ret
          exact ⟨by first | rfl | (simp; done) | (simp [*]; done), (below_then BW.out BW.out.size HB_w50.out)⟩
        | true =>
          obtain ⟨hbf, g2, c2, z1, z2, z3⟩ := Z1.out rfl
          subst hbf
          have Z4 := Aside0.mk z1
          have Z5 := Aside0.mk z2
          have z4 : (wrap64 (g + g2) == wrap64 (c2 - 1)) = true := by rw [z3]; simp
          have z5 : (IntKind.i64.wrap (g + g2) == IntKind.i64.wrap (c2 - 1)) = true := by simpa only [i64_w] using z4
          clear z1 z2 z3
          refine start_ (n := 18) (S := fun w' => Below (w36.alloc (.cells #[.slice A_q0 lq0.length c_q0, .slice A_q1 lq1.length c_q1] 26 (0, 0))).heap.size (w36.alloc (.cells #[.slice A_q0 lq0.length c_q0, .slice A_q1 lq1.length c_q1] 26 (0, 0))) w') (ds := []) (tf 18 0) (by kernel_rfl) rfl rfl (by apply below_drew1; exact HBc.out) (fun hHeld => ?_); refine with_tabW laws_FnShapes.tab22 laws_FnShapes.bits22 (fun HT_ HW_ => ?_)
          generalize wc.drew = w51 at hHeld ⊢
          have HB_w51 := Aside0.mk hHeld
          clear HBc
          refine take1 0 184 (.agg #[.slice A_r0 lr0.length c_r0, .slice A_r1 lr1.length c_r1]) (tf 18 1) (take_ofW HT_.out HW_.out (by kernel_rfl)) hHeld rfl (by intro w' hS_; have s0 : w'.cell? ⟨w6.heap.size, 0, none⟩ = some (.slice A_r0 lr0.length c_r0) := (blk_cell (blk_below K_r.out hS_) 0).trans rfl; have s1 : w'.cell? ⟨w6.heap.size, 1, none⟩ = some (.slice A_r1 lr1.length c_r1) := (blk_cell (blk_below K_r.out hS_) 1).trans rfl; go_simp; (try with_reducible rfl)) ?_
          refine one_ (i := 1) (N := some 185) (tf 18 2) rfl rfl (one_of HT_.out (by kernel_rfl)) (by decide) (fun K hK => ?_)
          refine goes_ Tryz.func19 (by kernel_rfl) rfl #[.agg #[.slice A_r0 lr0.length c_r0, .slice A_r1 lr1.length c_r1]] (by rfl) rfl rfl lm ?_
          refine (impl_IsRibbon.calls k _ _ lr0 _ _ lr1 true _ (Kd.C_below C_r0.out HB_w51.out) L_r0.out (Kd.C_below C_r1.out HB_w51.out) L_r1.out R1.out).mono ?_
          rintro e w52 ⟨rfl, b⟩
          refine ⟨_, rfl, ?_⟩
          have HB_w52 := Aside0.mk (below_then HB_w51.out HB_w51.out.size b)
          clear b HB_w51 hHeld
          refine hK.out _ _ HB_w52.out (fun hHeld => ?_); clear hK K; refine norm1 185 ?_
          refine pure1 2 186 (tf 18 3) (any_of HT_.out (by kernel_rfl)) ?_
          refine pure1 3 187 (tf 18 4) (any_of HT_.out (by kernel_rfl)) ?_
          refine pure1 4 188 (tf 18 5) (any_of HT_.out (by kernel_rfl)) ?_
          refine pure1 5 189 (tf 18 6) (any_of HT_.out (by kernel_rfl)) ?_
          refine take1 6 190 (.agg #[.slice A_r0 lr0.length c_r0, .slice A_r1 lr1.length c_r1]) (tf 18 7) (take_ofW HT_.out HW_.out (by kernel_rfl)) hHeld rfl (by intro w' hS_; have s0 : w'.cell? ⟨w6.heap.size, 0, none⟩ = some (.slice A_r0 lr0.length c_r0) := (blk_cell (blk_below K_r.out hS_) 0).trans rfl; have s1 : w'.cell? ⟨w6.heap.size, 1, none⟩ = some (.slice A_r1 lr1.length c_r1) := (blk_cell (blk_below K_r.out hS_) 1).trans rfl; go_simp; (try with_reducible rfl)) ?_
          refine take1 8 192 (.agg #[.slice A_v0 lv0.length c_v0, .slice A_v1 lv1.length c_v1]) #[true, true, true, true, true, true, true, false, true, false, false, false, false, false, false, false, false, false] (take_ofW HT_.out HW_.out (by kernel_rfl)) hHeld rfl (by intro w' hS_; have s0 : w'.cell? ⟨w35.heap.size, 0, none⟩ = some (.slice A_v0 lv0.length c_v0) := (blk_cell (blk_below K_v.out hS_) 0).trans rfl; have s1 : w'.cell? ⟨w35.heap.size, 1, none⟩ = some (.slice A_v1 lv1.length c_v1) := (blk_cell (blk_below K_v.out hS_) 1).trans rfl; go_simp; (try with_reducible rfl)) ?_
          refine take1 11 195 (.agg #[.slice A_r0 lr0.length c_r0, .slice A_r1 lr1.length c_r1]) #[true, true, true, true, true, true, true, false, true, false, false, true, false, false, false, false, false, false] (take_ofW HT_.out HW_.out (by kernel_rfl)) hHeld rfl (by intro w' hS_; have s0 : w'.cell? ⟨w6.heap.size, 0, none⟩ = some (.slice A_r0 lr0.length c_r0) := (blk_cell (blk_below K_r.out hS_) 0).trans rfl; have s1 : w'.cell? ⟨w6.heap.size, 1, none⟩ = some (.slice A_r1 lr1.length c_r1) := (blk_cell (blk_below K_r.out hS_) 1).trans rfl; go_simp; (try with_reducible rfl)) ?_
          refine one_ (i := 7) (N := some 191) #[true, true, true, true, true, true, true, true, true, false, false, true, false, false, false, false, false, false] rfl rfl (one_of HT_.out (by kernel_rfl)) (by decide) (fun K hK => ?_)
          refine goes_ Tryz.func21 (by kernel_rfl) rfl #[.agg #[.slice A_r0 lr0.length c_r0, .slice A_r1 lr1.length c_r1]] (by rfl) rfl rfl lm ?_
          refine (impl_RibbonHeight.calls k _ _ lr0 _ _ lr1 g _ (Kd.C_below C_r0.out HB_w52.out) L_r0.out (Kd.C_below C_r1.out HB_w52.out) L_r1.out G1.out).mono ?_
          rintro e w53 ⟨rfl, b⟩
          refine ⟨_, rfl, ?_⟩
          have HB_w53 := Aside0.mk (below_then HB_w52.out HB_w52.out.size b)
          clear b HB_w52 hHeld
          refine hK.out _ _ HB_w53.out (fun hHeld => ?_); clear hK K; refine norm1 191 ?_
          refine one_ (i := 9) (N := some 193) #[true, true, true, true, true, true, true, true, true, true, false, true, false, false, false, false, false, false] rfl rfl (one_of HT_.out (by kernel_rfl)) (by decide) (fun K hK => ?_)
          refine goes_ Tryz.func21 (by kernel_rfl) rfl #[.agg #[.slice A_v0 lv0.length c_v0, .slice A_v1 lv1.length c_v1]] (by rfl) rfl rfl lm ?_
          refine (impl_RibbonHeight.calls k _ _ lv0 _ _ lv1 g2 _ (Kd.C_below C_v0.out HB_w53.out) L_v0.out (Kd.C_below C_v1.out HB_w53.out) L_v1.out Z4.out).mono ?_
          rintro e w54 ⟨rfl, b⟩
          refine ⟨_, rfl, ?_⟩
          have HB_w54 := Aside0.mk (below_then HB_w53.out HB_w53.out.size b)
          clear b HB_w53 hHeld
          refine hK.out _ _ HB_w54.out (fun hHeld => ?_); clear hK K; refine norm1 193 ?_
          refine pure1 10 194 (tf 18 12) (any_of HT_.out (by kernel_rfl)) ?_
          refine one_ (i := 12) (N := some 196) (tf 18 13) rfl rfl (one_of HT_.out (by kernel_rfl)) (by decide) (fun K hK => ?_)
          refine goes_ Tryz.func26 (by kernel_rfl) rfl #[.agg #[.slice A_r0 lr0.length c_r0, .slice A_r1 lr1.length c_r1]] (by rfl) rfl rfl lm ?_
          refine (impl_CellCount.calls k _ _ lr0 _ _ lr1 c2 _ (Kd.C_below C_r0.out HB_w54.out) L_r0.out (Kd.C_below C_r1.out HB_w54.out) L_r1.out Z5.out).mono ?_
          rintro e w55 ⟨rfl, b⟩
          refine ⟨_, rfl, ?_⟩
          have HB_w55 := Aside0.mk (below_then HB_w54.out HB_w54.out.size b)
          clear b HB_w54 hHeld
          refine hK.out _ _ HB_w55.out (fun hHeld => ?_); clear hK K; refine norm1 196 ?_
          refine pure1 13 197 (tf 18 14) (any_of HT_.out (by kernel_rfl)) ?_
          refine pure1 14 198 (tf 18 15) (any_of HT_.out (by kernel_rfl)) ?_
          refine pure1 15 199 (tf 18 16) (any_of HT_.out (by kernel_rfl)) ?_
          refine pure1 16 200 (tf 18 17) (any_of HT_.out (by kernel_rfl)) ?_
          refine pure1 17 2 (tf 18 18) (any_of HT_.out (by kernel_rfl)) ?_
          refine done_ (done_of HT_.out (by kernel_rfl)) ?_
          clear HT_ HW_ hHeld
          try go_wp2
          go_ret
          exact ⟨by first | rfl | (simp; done) | (simp [*]; done), (below_then BW.out BW.out.size HB_w55.out)⟩

end Go.Proofs.YtkbomfpebhjaoaaGreatDoor.QFnShapes
