/- This session's own text: the walk of the law FnPartitions: where the facts of its plain functions hold it returns true and nothing that lay before has turned. No condition beyond those that the statement bears. -/
import Derived.Test.YtcnpdiiecopccaaGreatDoorQFnPartitionsx0
import Derived.Test.YtcnpdiiecopccaaGreatDoorQFnPartitionsx1
import Derived.Test.YtcnpdiiecopccaaGreatDoorQFnPartitionsx2
import Derived.Test.YtcnpdiiecopccaaGreatDoorQFnPartitionsx3
import Derived.Test.YtcnpdiiecopccaaGreatDoorQFnPartitionsx4
import Derived.Test.YtcnpdiiecopccaaGreatDoorQFnPartitionsx5
import Derived.Test.YtcnpdiiecopccaaGreatDoorQFnPartitionsx6
import Derived.Test.YtcnpdiiecopccaaGreatDoorQFnPartitionsx7
import Derived.Test.YtcnpdiiecopccaaGreatDoorQFnPartitionsx8
import Derived.Test.YtcnpdiiecopccaaGreatDoorQFnPartitionsx9
import Derived.Test.YtcnpdiiecopccaaGreatDoorQFnPartitionsx10
import Derived.Test.YtcnpdiiecopccaaGreatDoorTwoFnPartitions
namespace Go.Proofs.YtcnpdiiecopccaaGreatDoor.QFnPartitions
open Go.Proofs.YtcnpdiiecopccaaGreatDoor.Short Go.RowKit Go.Proofs.YtcnpdiiecopccaaGreatDoorW.PrintWords Go.Proofs.YtcnpdiiecopccaaGreatDoorW.PrintLast Go.Proofs.YtcnpdiiecopccaaGreatDoorW.PrintMore
set_option linter.unusedVariables false
set_option linter.unusedSimpArgs false
def laws_FnPartitions.ok (k : Nat) (l0 : List Int) : Prop := laws_big.f l0 = some true ∨ ∃ (lp lc lq lr ld le la lx lb lu lw lk lz : List Int) (all : List (List Int)) (t tx : ByteArray) (n row line z : Int) (one three ok bi bd bp : Bool), laws_big.f l0 = some false ∧ spec_DrawConjugate.f k l0 = some lp ∧ impl_Conjugate.f k lp = some lc ∧ spec_DrawPartitionsOf.f k l0 = some n ∧ impl_PartitionsOf.f k n = some all ∧ spec_DrawIsInside.f k l0 = some (lq, lr) ∧ spec_DrawDominates.f k l0 = some (ld, le) ∧ spec_DrawAddBox.f k l0 = some (la, row) ∧ impl_AddBox.f k la row = some (lx, one) ∧ spec_AddBox.f k la row = some (lx, one) ∧ spec_DrawRemoveBox.f k l0 = some (lb, line) ∧ impl_RemoveBox.f k lb line = some (lu, three) ∧ spec_RemoveBox.f k lb line = some (lu, three) ∧ spec_DrawParsePartition.f k l0 = some t ∧ impl_ParsePartition.f k t = some (lw, ok) ∧ spec_ParsePartition.f k t = some (lw, ok) ∧ spec_Conjugate.f k lp = some lc ∧ laws_sameInts.f k lc lc = some true ∧ spec_PartitionsOf.f k n = some all ∧ laws_sameLists.f k all all = some true ∧ impl_IsInside.f k lq lr = some bi ∧ spec_IsInside.f k lq lr = some bi ∧ impl_Dominates.f k ld le = some bd ∧ spec_Dominates.f k ld le = some bd ∧ laws_sameInts.f k lx lx = some true ∧ laws_sameInts.f k lu lu = some true ∧ laws_sameInts.f k lw lw = some true ∧ impl_Corners.f k lb = some lk ∧ spec_Corners.f k lb = some lk ∧ laws_sameInts.f k lk lk = some true ∧ impl_SizeOf.f k lp = some z ∧ spec_SizeOf.f k lp = some z ∧ impl_IsPartition.f k lp = some bp ∧ spec_IsPartition.f k lp = some bp ∧ impl_PartitionText.f k lp = some tx ∧ impl_ParsePartition.f k tx = some (lz, bp) ∧ spec_PartitionText.f k lp = some tx ∧ (bp = true → laws_sameInts.f k lz lp = some true ∧ ∃ lcc : List Int, impl_Conjugate.f k lc = some lcc ∧ laws_sameInts.f k lcc lp = some true) ∧ (bd = true → ∃ lce lcd : List Int, spec_Conjugate.f k le = some lce ∧ spec_Conjugate.f k ld = some lcd ∧ impl_Dominates.f k lce lcd = some true) ∧ (one = true → ∃ lf : List Int, impl_RemoveBox.f k lx row = some (lf, true) ∧ laws_sameInts.f k lf la = some true)
theorem drawn_below {w w' : World} (h : Drawn0 w w') : Below w.heap.size w w' := by
  obtain ⟨n, rfl⟩ := h
  exact pw_below_drewN (Below.refl _ _) n

set_option maxHeartbeats 16000000 in
set_option maxRecDepth 100000 in
theorem laws_FnPartitions.calls (k : Nat) (A0 : Option Addr) (c0 : Nat) (l0 : List Int) (w : World) (hr0 : Kd.C (Kd.int .u8) w A0 l0.length l0) (hc0 : l0.length ≤ c0) (ht : Tabs w) (h : laws_FnPartitions.ok k l0) :
    Calls Tryz.prog 3 #[.slice A0 l0.length c0] w fun e w' => e = .returned (.bool true) ∧ Below w.heap.size w w' := by
  have HT := Aside0.mk ht
  have HR0 := Aside0.mk hr0
  have HC0 := Aside0.mk hc0
  have BW := Aside0.mk (Below.refl w.heap.size w)
  clear ht hr0 hc0
  rcases h with d0 | ⟨lp, lc, lq, lr, ld, le, la, lx, lb, lu, lw, lk, lz, all, t, tx, n, row, line, z, one, three, ok, bi, bd, bp, d0, d1, d2, d3, d4, d5, d6, d7, d8, d9, d10, d11, d12, d13, d14, d15, e1, e2, e3, e4, e5, e6, e7, e8, e9, e10, e11, e12, e13, e14, e15, e16, e17, e18, t1, t2, t3, y1, y2, y3⟩
  · have D0 := Aside0.mk d0
    clear d0
    go_enter Tryz.func3, Tryz.ntmps3
    go_wp2_with fail
    refine (laws_big.calls _ _ l0 true _ HR0.out HC0.out D0.out).mono ?_
    rintro e w1 ⟨rfl, hd_⟩
    have b := drawn_below hd_
    clear hd_
    go_wp2_with fail
    go_ret
    exact ⟨rfl, b⟩
  · skip
    have D0 := Aside0.mk d0
    have D1 := Aside0.mk d1
    have D2 := Aside0.mk d2
    have D3 := Aside0.mk d3
    have D4 := Aside0.mk d4
    have D5 := Aside0.mk d5
    have D6 := Aside0.mk d6
    have D7 := Aside0.mk d7
    have D8 := Aside0.mk d8
    have D9 := Aside0.mk d9
    have D10 := Aside0.mk d10
    have D11 := Aside0.mk d11
    have D12 := Aside0.mk d12
    have D13 := Aside0.mk d13
    have D14 := Aside0.mk d14
    have D15 := Aside0.mk d15
    have E1 := Aside0.mk e1
    have E2 := Aside0.mk e2
    have E3 := Aside0.mk e3
    have E4 := Aside0.mk e4
    have E5 := Aside0.mk e5
    have E6 := Aside0.mk e6
    have E7 := Aside0.mk e7
    have E8 := Aside0.mk e8
    have E9 := Aside0.mk e9
    have E10 := Aside0.mk e10
    have E11 := Aside0.mk e11
    have E12 := Aside0.mk e12
    have E13 := Aside0.mk e13
    have E14 := Aside0.mk e14
    have E15 := Aside0.mk e15
    have E16 := Aside0.mk e16
    have E17 := Aside0.mk e17
    have E18 := Aside0.mk e18
    have T1 := Aside0.mk t1
    have T2 := Aside0.mk t2
    have T3 := Aside0.mk t3
    have Y1 := Aside0.mk y1
    have Y2 := Aside0.mk y2
    have Y3 := Aside0.mk y3
    clear d0 d1 d2 d3 d4 d5 d6 d7 d8 d9 d10 d11 d12 d13 d14 d15 e1 e2 e3 e4 e5 e6 e7 e8 e9 e10 e11 e12 e13 e14 e15 e16 e17 e18 t1 t2 t3 y1 y2 y3
    have hone : (one != one) = false := by simp
    have hthree : (three != three) = false := by simp
    have hok : (ok != ok) = false := by simp
    have hbi : (bi != bi) = false := by simp
    have hbd : (bd != bd) = false := by simp
    have hbp : (bp != bp) = false := by simp
    have hz0 : (z != z) = false := by simp
    have hz1 : (z == z) = true := by simp
    have htx0 : (tx.toList == tx.toList) = true := by simp
    have htx1 : (tx.toList != tx.toList) = false := by simp
    go_enter Tryz.func3, Tryz.ntmps3
    go_wp2_with fail
    -- laws_big
    refine (laws_big.calls _ _ l0 false _ HR0.out HC0.out D0.out).mono ?_
    rintro e w1 ⟨rfl, hd_⟩
    have b := drawn_below hd_
    clear hd_
    have HB_w1 := Aside0.mk b
    clear b
    go_wp2_with fail
    -- spec_DrawConjugate
    refine (spec_DrawConjugate.calls k _ _ l0 lp _ (Kd.C_below HR0.out HB_w1.out) HC0.out D1.out).mono ?_
    rintro e w2 ⟨v_p, rfl, r_p, b⟩
    have bb := below_then HB_w1.out HB_w1.out.size b
    replace HR0 := Aside0.mk (Kd.C_below HR0.out bb)
    replace BW := Aside0.mk (below_then BW.out BW.out.size bb)
    clear bb HB_w1
    obtain ⟨A_p, c_p, rfl⟩ := Kd.R_slice r_p
    have C_p := Aside0.mk (Kd.R_reads' r_p).2.2
    have L_p := Aside0.mk (Kd.R_reads' r_p).2.1
    clear b r_p
    go_wp2_with fail
    -- impl_Conjugate
    refine (impl_Conjugate.calls k _ _ lp lc _ C_p.out L_p.out D2.out).mono ?_
    rintro e w3 ⟨v_c, rfl, r_c, b⟩
    have bb := b
    replace HR0 := Aside0.mk (Kd.C_below HR0.out bb)
    replace C_p := Aside0.mk (Kd.C_below C_p.out bb)
    replace BW := Aside0.mk (below_then BW.out BW.out.size bb)
    clear bb
    obtain ⟨A_c, c_c, rfl⟩ := Kd.R_slice r_c
    have C_c := Aside0.mk (Kd.R_reads' r_c).2.2
    have L_c := Aside0.mk (Kd.R_reads' r_c).2.1
    clear b r_c
    go_wp2_with fail
    -- spec_DrawPartitionsOf
    refine (spec_DrawPartitionsOf.calls k _ _ l0 n _ HR0.out HC0.out D3.out).mono ?_
    rintro e w4 ⟨rfl, b⟩
    have HB_w4 := Aside0.mk b
    clear b
    go_wp2_with fail
    -- impl_PartitionsOf
    refine (impl_PartitionsOf.calls k n all _ D4.out).mono ?_
    rintro e w5 ⟨v_all, rfl, r_all, b⟩
    have bb := below_then HB_w4.out HB_w4.out.size b
    replace HR0 := Aside0.mk (Kd.C_below HR0.out bb)
    replace C_p := Aside0.mk (Kd.C_below C_p.out bb)
    replace C_c := Aside0.mk (Kd.C_below C_c.out bb)
    replace BW := Aside0.mk (below_then BW.out BW.out.size bb)
    clear bb HB_w4
    obtain ⟨A_all, c_all, rfl⟩ := Kd.S_slice r_all
    have C_all := Aside0.mk (Kd.S_reads' r_all).2.2
    have L_all := Aside0.mk (Kd.S_reads' r_all).2.1
    clear b r_all
    go_wp2_with fail
    -- spec_DrawIsInside
    refine (spec_DrawIsInside.calls k _ _ l0 lq lr _ HR0.out HC0.out D5.out).mono ?_
    rintro e w6 ⟨A_q, c_q, A_r, c_r, rfl, r_q, q_q, r_r, q_r, b⟩
    have bb := b
    replace HR0 := Aside0.mk (Kd.C_below HR0.out bb)
    replace C_p := Aside0.mk (Kd.C_below C_p.out bb)
    replace C_c := Aside0.mk (Kd.C_below C_c.out bb)
    replace C_all := Aside0.mk (Kd.C_below C_all.out bb)
    replace BW := Aside0.mk (below_then BW.out BW.out.size bb)
    clear bb
    have C_q := Aside0.mk r_q; have L_q := Aside0.mk q_q
    have C_r := Aside0.mk r_r; have L_r := Aside0.mk q_r
    clear b r_q q_q r_r q_r
    go_wp2_with fail
    -- spec_DrawDominates
    refine (spec_DrawDominates.calls k _ _ l0 ld le _ HR0.out HC0.out D6.out).mono ?_
    rintro e w7 ⟨A_d, c_d, A_e, c_e, rfl, r_d, q_d, r_e, q_e, b⟩
    have bb := b
    replace HR0 := Aside0.mk (Kd.C_below HR0.out bb)
    replace C_p := Aside0.mk (Kd.C_below C_p.out bb)
    replace C_c := Aside0.mk (Kd.C_below C_c.out bb)
    replace C_all := Aside0.mk (Kd.C_below C_all.out bb)
    replace C_q := Aside0.mk (Kd.C_below C_q.out bb)
    replace C_r := Aside0.mk (Kd.C_below C_r.out bb)
    replace BW := Aside0.mk (below_then BW.out BW.out.size bb)
    clear bb
    have C_d := Aside0.mk r_d; have L_d := Aside0.mk q_d
    have C_e := Aside0.mk r_e; have L_e := Aside0.mk q_e
    clear b r_d q_d r_e q_e
    go_wp2_with fail
    -- spec_DrawAddBox
    refine (spec_DrawAddBox.calls k _ _ l0 la row _ HR0.out HC0.out D7.out).mono ?_
    rintro e w8 ⟨v_a, rfl, r_a, b⟩
    have bb := b
    replace HR0 := Aside0.mk (Kd.C_below HR0.out bb)
    replace C_p := Aside0.mk (Kd.C_below C_p.out bb)
    replace C_c := Aside0.mk (Kd.C_below C_c.out bb)
    replace C_all := Aside0.mk (Kd.C_below C_all.out bb)
    replace C_q := Aside0.mk (Kd.C_below C_q.out bb)
    replace C_r := Aside0.mk (Kd.C_below C_r.out bb)
    replace C_d := Aside0.mk (Kd.C_below C_d.out bb)
    replace C_e := Aside0.mk (Kd.C_below C_e.out bb)
    replace BW := Aside0.mk (below_then BW.out BW.out.size bb)
    clear bb
    obtain ⟨A_a, c_a, rfl⟩ := Kd.R_slice r_a
    have C_a := Aside0.mk (Kd.R_reads' r_a).2.2
    have L_a := Aside0.mk (Kd.R_reads' r_a).2.1
    clear b r_a
    go_wp2_with fail
    -- impl_AddBox
    refine (impl_AddBox.calls k _ _ la row lx one _ C_a.out L_a.out D8.out).mono ?_
    rintro e w9 ⟨v_x, rfl, r_x, b⟩
    have bb := b
    replace HR0 := Aside0.mk (Kd.C_below HR0.out bb)
    replace C_p := Aside0.mk (Kd.C_below C_p.out bb)
    replace C_c := Aside0.mk (Kd.C_below C_c.out bb)
    replace C_all := Aside0.mk (Kd.C_below C_all.out bb)
    replace C_q := Aside0.mk (Kd.C_below C_q.out bb)
    replace C_r := Aside0.mk (Kd.C_below C_r.out bb)
    replace C_d := Aside0.mk (Kd.C_below C_d.out bb)
    replace C_e := Aside0.mk (Kd.C_below C_e.out bb)
    replace C_a := Aside0.mk (Kd.C_below C_a.out bb)
    replace BW := Aside0.mk (below_then BW.out BW.out.size bb)
    clear bb
    obtain ⟨A_x, c_x, rfl⟩ := Kd.R_slice r_x
    have C_x := Aside0.mk (Kd.R_reads' r_x).2.2
    have L_x := Aside0.mk (Kd.R_reads' r_x).2.1
    clear b r_x
    go_wp2_with fail
    -- spec_AddBox
    refine (spec_AddBox.calls k _ _ la row lx one _ C_a.out L_a.out D9.out).mono ?_
    rintro e w10 ⟨v_y, rfl, r_y, b⟩
    have bb := b
    replace HR0 := Aside0.mk (Kd.C_below HR0.out bb)
    replace C_p := Aside0.mk (Kd.C_below C_p.out bb)
    replace C_c := Aside0.mk (Kd.C_below C_c.out bb)
    replace C_all := Aside0.mk (Kd.C_below C_all.out bb)
    replace C_q := Aside0.mk (Kd.C_below C_q.out bb)
    replace C_r := Aside0.mk (Kd.C_below C_r.out bb)
    replace C_d := Aside0.mk (Kd.C_below C_d.out bb)
    replace C_e := Aside0.mk (Kd.C_below C_e.out bb)
    replace C_a := Aside0.mk (Kd.C_below C_a.out bb)
    replace C_x := Aside0.mk (Kd.C_below C_x.out bb)
    replace BW := Aside0.mk (below_then BW.out BW.out.size bb)
    clear bb
    obtain ⟨A_y, c_y, rfl⟩ := Kd.R_slice r_y
    have C_y := Aside0.mk (Kd.R_reads' r_y).2.2
    have L_y := Aside0.mk (Kd.R_reads' r_y).2.1
    clear b r_y
    go_wp2_with fail
    -- spec_DrawRemoveBox
    refine (spec_DrawRemoveBox.calls k _ _ l0 lb line _ HR0.out HC0.out D10.out).mono ?_
    rintro e w11 ⟨v_b, rfl, r_b, b⟩
    have bb := b
    replace HR0 := Aside0.mk (Kd.C_below HR0.out bb)
    replace C_p := Aside0.mk (Kd.C_below C_p.out bb)
    replace C_c := Aside0.mk (Kd.C_below C_c.out bb)
    replace C_all := Aside0.mk (Kd.C_below C_all.out bb)
    replace C_q := Aside0.mk (Kd.C_below C_q.out bb)
    replace C_r := Aside0.mk (Kd.C_below C_r.out bb)
    replace C_d := Aside0.mk (Kd.C_below C_d.out bb)
    replace C_e := Aside0.mk (Kd.C_below C_e.out bb)
    replace C_a := Aside0.mk (Kd.C_below C_a.out bb)
    replace C_x := Aside0.mk (Kd.C_below C_x.out bb)
    replace C_y := Aside0.mk (Kd.C_below C_y.out bb)
    replace BW := Aside0.mk (below_then BW.out BW.out.size bb)
    clear bb
    obtain ⟨A_b, c_b, rfl⟩ := Kd.R_slice r_b
    have C_b := Aside0.mk (Kd.R_reads' r_b).2.2
    have L_b := Aside0.mk (Kd.R_reads' r_b).2.1
    clear b r_b
    go_wp2_with fail
    -- impl_RemoveBox
    refine (impl_RemoveBox.calls k _ _ lb line lu three _ C_b.out L_b.out D11.out).mono ?_
    rintro e w12 ⟨v_u, rfl, r_u, b⟩
    have bb := b
    replace HR0 := Aside0.mk (Kd.C_below HR0.out bb)
    replace C_p := Aside0.mk (Kd.C_below C_p.out bb)
    replace C_c := Aside0.mk (Kd.C_below C_c.out bb)
    replace C_all := Aside0.mk (Kd.C_below C_all.out bb)
    replace C_q := Aside0.mk (Kd.C_below C_q.out bb)
    replace C_r := Aside0.mk (Kd.C_below C_r.out bb)
    replace C_d := Aside0.mk (Kd.C_below C_d.out bb)
    replace C_e := Aside0.mk (Kd.C_below C_e.out bb)
    replace C_a := Aside0.mk (Kd.C_below C_a.out bb)
    replace C_x := Aside0.mk (Kd.C_below C_x.out bb)
    replace C_y := Aside0.mk (Kd.C_below C_y.out bb)
    replace C_b := Aside0.mk (Kd.C_below C_b.out bb)
    replace BW := Aside0.mk (below_then BW.out BW.out.size bb)
    clear bb
    obtain ⟨A_u, c_u, rfl⟩ := Kd.R_slice r_u
    have C_u := Aside0.mk (Kd.R_reads' r_u).2.2
    clear b r_u
    simp only [clipV_slice]
    go_wp2_with fail
    -- spec_RemoveBox
    refine (spec_RemoveBox.calls k _ _ lb line lu three _ C_b.out L_b.out D12.out).mono ?_
    rintro e w13 ⟨v_v, rfl, r_v, b⟩
    have bb := b
    replace HR0 := Aside0.mk (Kd.C_below HR0.out bb)
    replace C_p := Aside0.mk (Kd.C_below C_p.out bb)
    replace C_c := Aside0.mk (Kd.C_below C_c.out bb)
    replace C_all := Aside0.mk (Kd.C_below C_all.out bb)
    replace C_q := Aside0.mk (Kd.C_below C_q.out bb)
    replace C_r := Aside0.mk (Kd.C_below C_r.out bb)
    replace C_d := Aside0.mk (Kd.C_below C_d.out bb)
    replace C_e := Aside0.mk (Kd.C_below C_e.out bb)
    replace C_a := Aside0.mk (Kd.C_below C_a.out bb)
    replace C_x := Aside0.mk (Kd.C_below C_x.out bb)
    replace C_y := Aside0.mk (Kd.C_below C_y.out bb)
    replace C_b := Aside0.mk (Kd.C_below C_b.out bb)
    replace C_u := Aside0.mk (Kd.C_below C_u.out bb)
    replace BW := Aside0.mk (below_then BW.out BW.out.size bb)
    clear bb
    obtain ⟨A_v, c_v, rfl⟩ := Kd.R_slice r_v
    have C_v := Aside0.mk (Kd.R_reads' r_v).2.2
    have L_v := Aside0.mk (Kd.R_reads' r_v).2.1
    clear b r_v
    go_wp2_with fail
    -- spec_DrawParsePartition
    refine (spec_DrawParsePartition.calls k _ _ l0 t _ HR0.out HC0.out D13.out).mono ?_
    rintro e w14 ⟨rfl, b⟩
    have HB_w14 := Aside0.mk b
    clear b
    go_wp2_with fail
    -- impl_ParsePartition
    refine (impl_ParsePartition.calls k t lw ok _ (HT.out.below (below_then BW.out BW.out.size HB_w14.out)) D14.out).mono ?_
    rintro e w15 ⟨v_w, rfl, r_w, b⟩
    have bb := below_then HB_w14.out HB_w14.out.size b
    replace HR0 := Aside0.mk (Kd.C_below HR0.out bb)
    replace C_p := Aside0.mk (Kd.C_below C_p.out bb)
    replace C_c := Aside0.mk (Kd.C_below C_c.out bb)
    replace C_all := Aside0.mk (Kd.C_below C_all.out bb)
    replace C_q := Aside0.mk (Kd.C_below C_q.out bb)
    replace C_r := Aside0.mk (Kd.C_below C_r.out bb)
    replace C_d := Aside0.mk (Kd.C_below C_d.out bb)
    replace C_e := Aside0.mk (Kd.C_below C_e.out bb)
    replace C_a := Aside0.mk (Kd.C_below C_a.out bb)
    replace C_x := Aside0.mk (Kd.C_below C_x.out bb)
    replace C_y := Aside0.mk (Kd.C_below C_y.out bb)
    replace C_b := Aside0.mk (Kd.C_below C_b.out bb)
    replace C_u := Aside0.mk (Kd.C_below C_u.out bb)
    replace C_v := Aside0.mk (Kd.C_below C_v.out bb)
    replace BW := Aside0.mk (below_then BW.out BW.out.size bb)
    clear bb HB_w14
    obtain ⟨A_w, c_w, rfl⟩ := Kd.R_slice r_w
    have C_w := Aside0.mk (Kd.R_reads' r_w).2.2
    have L_w := Aside0.mk (Kd.R_reads' r_w).2.1
    clear b r_w
    go_wp2_with fail
    -- spec_ParsePartition
    refine (spec_ParsePartition.calls k t lw ok _ D15.out).mono ?_
    rintro e w16 ⟨v_z, rfl, r_z, b⟩
    have bb := b
    replace HR0 := Aside0.mk (Kd.C_below HR0.out bb)
    replace C_p := Aside0.mk (Kd.C_below C_p.out bb)
    replace C_c := Aside0.mk (Kd.C_below C_c.out bb)
    replace C_all := Aside0.mk (Kd.C_below C_all.out bb)
    replace C_q := Aside0.mk (Kd.C_below C_q.out bb)
    replace C_r := Aside0.mk (Kd.C_below C_r.out bb)
    replace C_d := Aside0.mk (Kd.C_below C_d.out bb)
    replace C_e := Aside0.mk (Kd.C_below C_e.out bb)
    replace C_a := Aside0.mk (Kd.C_below C_a.out bb)
    replace C_x := Aside0.mk (Kd.C_below C_x.out bb)
    replace C_y := Aside0.mk (Kd.C_below C_y.out bb)
    replace C_b := Aside0.mk (Kd.C_below C_b.out bb)
    replace C_u := Aside0.mk (Kd.C_below C_u.out bb)
    replace C_v := Aside0.mk (Kd.C_below C_v.out bb)
    replace C_w := Aside0.mk (Kd.C_below C_w.out bb)
    replace BW := Aside0.mk (below_then BW.out BW.out.size bb)
    clear bb
    obtain ⟨A_z, c_z, rfl⟩ := Kd.R_slice r_z
    have C_z := Aside0.mk (Kd.R_reads' r_z).2.2
    have L_z := Aside0.mk (Kd.R_reads' r_z).2.1
    clear b r_z
    go_wp2_with fail
    -- spec_Conjugate
    refine (spec_Conjugate.calls k _ _ lp lc _ C_p.out L_p.out E1.out).mono ?_
    rintro e w17 ⟨v_c2, rfl, r_c2, b⟩
    have bb := b
    replace HR0 := Aside0.mk (Kd.C_below HR0.out bb)
    replace C_p := Aside0.mk (Kd.C_below C_p.out bb)
    replace C_c := Aside0.mk (Kd.C_below C_c.out bb)
    replace C_all := Aside0.mk (Kd.C_below C_all.out bb)
    replace C_q := Aside0.mk (Kd.C_below C_q.out bb)
    replace C_r := Aside0.mk (Kd.C_below C_r.out bb)
    replace C_d := Aside0.mk (Kd.C_below C_d.out bb)
    replace C_e := Aside0.mk (Kd.C_below C_e.out bb)
    replace C_a := Aside0.mk (Kd.C_below C_a.out bb)
    replace C_x := Aside0.mk (Kd.C_below C_x.out bb)
    replace C_y := Aside0.mk (Kd.C_below C_y.out bb)
    replace C_b := Aside0.mk (Kd.C_below C_b.out bb)
    replace C_u := Aside0.mk (Kd.C_below C_u.out bb)
    replace C_v := Aside0.mk (Kd.C_below C_v.out bb)
    replace C_w := Aside0.mk (Kd.C_below C_w.out bb)
    replace C_z := Aside0.mk (Kd.C_below C_z.out bb)
    replace BW := Aside0.mk (below_then BW.out BW.out.size bb)
    clear bb
    obtain ⟨A_c2, c_c2, rfl⟩ := Kd.R_slice r_c2
    have C_c2 := Aside0.mk (Kd.R_reads' r_c2).2.2
    have L_c2 := Aside0.mk (Kd.R_reads' r_c2).2.1
    clear b r_c2
    go_wp2_with fail
    -- laws_sameInts
    refine (laws_sameInts.calls k _ _ lc _ _ lc true _ C_c.out L_c.out C_c2.out L_c2.out E2.out).mono ?_
    rintro e w18 ⟨rfl, hd_⟩
    have b := drawn_below hd_
    clear hd_
    have HB_w18 := Aside0.mk b
    clear b
    go_wp2_with fail
    -- spec_PartitionsOf
    refine (spec_PartitionsOf.calls k n all _ E3.out).mono ?_
    rintro e w19 ⟨v_all2, rfl, r_all2, b⟩
    have bb := below_then HB_w18.out HB_w18.out.size b
    replace HR0 := Aside0.mk (Kd.C_below HR0.out bb)
    replace C_p := Aside0.mk (Kd.C_below C_p.out bb)
    replace C_c := Aside0.mk (Kd.C_below C_c.out bb)
    replace C_all := Aside0.mk (Kd.C_below C_all.out bb)
    replace C_q := Aside0.mk (Kd.C_below C_q.out bb)
    replace C_r := Aside0.mk (Kd.C_below C_r.out bb)
    replace C_d := Aside0.mk (Kd.C_below C_d.out bb)
    replace C_e := Aside0.mk (Kd.C_below C_e.out bb)
    replace C_a := Aside0.mk (Kd.C_below C_a.out bb)
    replace C_x := Aside0.mk (Kd.C_below C_x.out bb)
    replace C_y := Aside0.mk (Kd.C_below C_y.out bb)
    replace C_b := Aside0.mk (Kd.C_below C_b.out bb)
    replace C_u := Aside0.mk (Kd.C_below C_u.out bb)
    replace C_v := Aside0.mk (Kd.C_below C_v.out bb)
    replace C_w := Aside0.mk (Kd.C_below C_w.out bb)
    replace C_z := Aside0.mk (Kd.C_below C_z.out bb)
    replace BW := Aside0.mk (below_then BW.out BW.out.size bb)
    clear bb HB_w18
    obtain ⟨A_all2, c_all2, rfl⟩ := Kd.S_slice r_all2
    have C_all2 := Aside0.mk (Kd.S_reads' r_all2).2.2
    have L_all2 := Aside0.mk (Kd.S_reads' r_all2).2.1
    clear b r_all2
    go_wp2_with fail
    -- laws_sameLists
    refine (laws_sameLists.calls k _ _ all _ _ all true _ C_all.out L_all.out C_all2.out L_all2.out E4.out).mono ?_
    rintro e w20 ⟨rfl, hd_⟩
    have b := drawn_below hd_
    clear hd_
    have HB_w20 := Aside0.mk b
    clear b
    go_wp2_with fail
    -- impl_IsInside
    refine (impl_IsInside.calls k _ _ lq _ _ lr bi _ (Kd.C_below C_q.out HB_w20.out) L_q.out (Kd.C_below C_r.out HB_w20.out) L_r.out E5.out).mono ?_
    rintro e w21 ⟨rfl, hd_⟩
    have b := drawn_below hd_
    clear hd_
    have HB_w21 := Aside0.mk (below_then HB_w20.out HB_w20.out.size b)
    clear b HB_w20
    go_wp2_with fail
    -- spec_IsInside
    refine (spec_IsInside.calls k _ _ lq _ _ lr bi _ (Kd.C_below C_q.out HB_w21.out) L_q.out (Kd.C_below C_r.out HB_w21.out) L_r.out E6.out).mono ?_
    rintro e w22 ⟨rfl, hd_⟩
    have b := drawn_below hd_
    clear hd_
    have HB_w22 := Aside0.mk (below_then HB_w21.out HB_w21.out.size b)
    clear b HB_w21
    go_wp2_with fail
    -- impl_Dominates
    refine (impl_Dominates.calls k _ _ ld _ _ le bd _ (Kd.C_below C_d.out HB_w22.out) L_d.out (Kd.C_below C_e.out HB_w22.out) L_e.out E7.out).mono ?_
    rintro e w23 ⟨rfl, hd_⟩
    have b := drawn_below hd_
    clear hd_
    have HB_w23 := Aside0.mk (below_then HB_w22.out HB_w22.out.size b)
    clear b HB_w22
    go_wp2_with fail
    -- spec_Dominates
    refine (spec_Dominates.calls k _ _ ld _ _ le bd _ (Kd.C_below C_d.out HB_w23.out) L_d.out (Kd.C_below C_e.out HB_w23.out) L_e.out E8.out).mono ?_
    rintro e w24 ⟨rfl, hd_⟩
    have b := drawn_below hd_
    clear hd_
    have HB_w24 := Aside0.mk (below_then HB_w23.out HB_w23.out.size b)
    clear b HB_w23
    go_wp2_with fail
    -- laws_sameInts
    refine (laws_sameInts.calls k _ _ lx _ _ lx true _ (Kd.C_below C_x.out HB_w24.out) L_x.out (Kd.C_below C_y.out HB_w24.out) L_y.out E9.out).mono ?_
    rintro e w25 ⟨rfl, hd_⟩
    have b := drawn_below hd_
    clear hd_
    have HB_w25 := Aside0.mk (below_then HB_w24.out HB_w24.out.size b)
    clear b HB_w24
    go_wp2_with fail
    -- laws_sameInts
    refine (laws_sameInts.calls k _ _ lu _ _ lu true _ (Kd.C_below C_u.out HB_w25.out) (Nat.le_refl _) (Kd.C_below C_v.out HB_w25.out) L_v.out E10.out).mono ?_
    rintro e w26 ⟨rfl, hd_⟩
    have b := drawn_below hd_
    clear hd_
    have HB_w26 := Aside0.mk (below_then HB_w25.out HB_w25.out.size b)
    clear b HB_w25
    go_wp2_with fail
    -- laws_sameInts
    refine (laws_sameInts.calls k _ _ lw _ _ lw true _ (Kd.C_below C_w.out HB_w26.out) L_w.out (Kd.C_below C_z.out HB_w26.out) L_z.out E11.out).mono ?_
    rintro e w27 ⟨rfl, hd_⟩
    have b := drawn_below hd_
    clear hd_
    have HB_w27 := Aside0.mk (below_then HB_w26.out HB_w26.out.size b)
    clear b HB_w26
    go_wp2_with fail
    -- impl_Corners
    refine (impl_Corners.calls k _ _ lb lk _ (Kd.C_below C_b.out HB_w27.out) L_b.out E12.out).mono ?_
    rintro e w28 ⟨v_k1, rfl, r_k1, b⟩
    have bb := below_then HB_w27.out HB_w27.out.size b
    replace HR0 := Aside0.mk (Kd.C_below HR0.out bb)
    replace C_p := Aside0.mk (Kd.C_below C_p.out bb)
    replace C_c := Aside0.mk (Kd.C_below C_c.out bb)
    replace C_d := Aside0.mk (Kd.C_below C_d.out bb)
    replace C_e := Aside0.mk (Kd.C_below C_e.out bb)
    replace C_a := Aside0.mk (Kd.C_below C_a.out bb)
    replace C_x := Aside0.mk (Kd.C_below C_x.out bb)
    replace C_b := Aside0.mk (Kd.C_below C_b.out bb)
    replace BW := Aside0.mk (below_then BW.out BW.out.size bb)
    clear bb HB_w27
    obtain ⟨A_k1, c_k1, rfl⟩ := Kd.R_slice r_k1
    have C_k1 := Aside0.mk (Kd.R_reads' r_k1).2.2
    have L_k1 := Aside0.mk (Kd.R_reads' r_k1).2.1
    clear b r_k1
    go_wp2_with fail
    -- spec_Corners
    refine (spec_Corners.calls k _ _ lb lk _ C_b.out L_b.out E13.out).mono ?_
    rintro e w29 ⟨v_k2, rfl, r_k2, b⟩
    have bb := b
    replace HR0 := Aside0.mk (Kd.C_below HR0.out bb)
    replace C_p := Aside0.mk (Kd.C_below C_p.out bb)
    replace C_c := Aside0.mk (Kd.C_below C_c.out bb)
    replace C_d := Aside0.mk (Kd.C_below C_d.out bb)
    replace C_e := Aside0.mk (Kd.C_below C_e.out bb)
    replace C_a := Aside0.mk (Kd.C_below C_a.out bb)
    replace C_x := Aside0.mk (Kd.C_below C_x.out bb)
    replace C_b := Aside0.mk (Kd.C_below C_b.out bb)
    replace C_k1 := Aside0.mk (Kd.C_below C_k1.out bb)
    replace BW := Aside0.mk (below_then BW.out BW.out.size bb)
    clear bb
    obtain ⟨A_k2, c_k2, rfl⟩ := Kd.R_slice r_k2
    have C_k2 := Aside0.mk (Kd.R_reads' r_k2).2.2
    have L_k2 := Aside0.mk (Kd.R_reads' r_k2).2.1
    clear b r_k2
    go_wp2_with fail
    -- laws_sameInts
    refine (laws_sameInts.calls k _ _ lk _ _ lk true _ C_k1.out L_k1.out C_k2.out L_k2.out E14.out).mono ?_
    rintro e w30 ⟨rfl, hd_⟩
    have b := drawn_below hd_
    clear hd_
    have HB_w30 := Aside0.mk b
    clear b
    go_wp2_with fail
    -- impl_SizeOf
    refine (impl_SizeOf.calls k _ _ lp z _ (Kd.C_below C_p.out HB_w30.out) L_p.out E15.out).mono ?_
    rintro e w31 ⟨rfl, hd_⟩
    have b := drawn_below hd_
    clear hd_
    have HB_w31 := Aside0.mk (below_then HB_w30.out HB_w30.out.size b)
    clear b HB_w30
    go_wp2_with fail
    -- spec_SizeOf
    refine (spec_SizeOf.calls k _ _ lp z _ (Kd.C_below C_p.out HB_w31.out) L_p.out E16.out).mono ?_
    rintro e w32 ⟨rfl, hd_⟩
    have b := drawn_below hd_
    clear hd_
    have HB_w32 := Aside0.mk (below_then HB_w31.out HB_w31.out.size b)
    clear b HB_w31
    go_wp2_with fail
    -- impl_IsPartition
    refine (impl_IsPartition.calls k _ _ lp bp _ (Kd.C_below C_p.out HB_w32.out) L_p.out E17.out).mono ?_
    rintro e w33 ⟨rfl, hd_⟩
    have b := drawn_below hd_
    clear hd_
    have HB_w33 := Aside0.mk (below_then HB_w32.out HB_w32.out.size b)
    clear b HB_w32
    go_wp2_with fail
    -- spec_IsPartition
    refine (spec_IsPartition.calls k _ _ lp bp _ (Kd.C_below C_p.out HB_w33.out) L_p.out E18.out).mono ?_
    rintro e w34 ⟨rfl, hd_⟩
    have b := drawn_below hd_
    clear hd_
    have HB_w34 := Aside0.mk (below_then HB_w33.out HB_w33.out.size b)
    clear b HB_w33
    go_wp2_with fail
    -- impl_PartitionText
    refine (impl_PartitionText.calls k _ _ lp tx _ (Kd.C_below C_p.out HB_w34.out) L_p.out (HT.out.below (below_then BW.out BW.out.size HB_w34.out)) T1.out).mono ?_
    rintro e w35 ⟨rfl, b⟩
    have HB_w35 := Aside0.mk (below_then HB_w34.out HB_w34.out.size b)
    clear b HB_w34
    go_wp2_with fail
    -- impl_ParsePartition
    refine (impl_ParsePartition.calls k tx lz bp _ (HT.out.below (below_then BW.out BW.out.size HB_w35.out)) T2.out).mono ?_
    rintro e w36 ⟨v_t, rfl, r_t, b⟩
    have bb := below_then HB_w35.out HB_w35.out.size b
    replace HR0 := Aside0.mk (Kd.C_below HR0.out bb)
    replace C_p := Aside0.mk (Kd.C_below C_p.out bb)
    replace C_c := Aside0.mk (Kd.C_below C_c.out bb)
    replace C_d := Aside0.mk (Kd.C_below C_d.out bb)
    replace C_e := Aside0.mk (Kd.C_below C_e.out bb)
    replace C_a := Aside0.mk (Kd.C_below C_a.out bb)
    replace C_x := Aside0.mk (Kd.C_below C_x.out bb)
    replace BW := Aside0.mk (below_then BW.out BW.out.size bb)
    clear bb HB_w35
    obtain ⟨A_t, c_t, rfl⟩ := Kd.R_slice r_t
    have C_t := Aside0.mk (Kd.R_reads' r_t).2.2
    have L_t := Aside0.mk (Kd.R_reads' r_t).2.1
    clear b r_t
    go_upto_region 22 with fail
    try simp only [Act.put, List.setIfInBounds_toArray, List.set_cons_zero, List.set_cons_succ]
    have BX1 := Aside0.mk (Below.refl w36.heap.size w36)
    go_cut [216] (fun v216 wc => v216 = .bool false ∧ Aside0 (Below w36.heap.size w36 wc))
    case first =>
      cases bp with
      | true =>
        obtain ⟨y1, lcc, y2, y3⟩ := Y1.out rfl
        have Z1 := Aside0.mk y1
        have Z2 := Aside0.mk y2
        have Z3 := Aside0.mk y3
        clear y1 y2 y3
        go_wp2_with fail
        -- spec_PartitionText
        refine (spec_PartitionText.calls k _ _ lp tx _ C_p.out L_p.out T3.out).mono ?_
        rintro e w37 ⟨rfl, b⟩
        have HB_w37 := Aside0.mk b
        clear b
        go_wp2_with fail
        -- spec_IsPartition
        refine (spec_IsPartition.calls k _ _ lp true _ (Kd.C_below C_p.out HB_w37.out) L_p.out E18.out).mono ?_
        rintro e w38 ⟨rfl, hd_⟩
        have b := drawn_below hd_
        clear hd_
        have HB_w38 := Aside0.mk (below_then HB_w37.out HB_w37.out.size b)
        clear b HB_w37
        go_wp2_with fail
        -- laws_sameInts
        refine (laws_sameInts.calls k _ _ lz _ _ lp true _ (Kd.C_below C_t.out HB_w38.out) L_t.out (Kd.C_below C_p.out HB_w38.out) L_p.out Z1.out).mono ?_
        rintro e w39 ⟨rfl, hd_⟩
        have b := drawn_below hd_
        clear hd_
        have HB_w39 := Aside0.mk (below_then HB_w38.out HB_w38.out.size b)
        clear b HB_w38
        go_wp2_with fail
        -- impl_Conjugate
        refine (impl_Conjugate.calls k _ _ lc lcc _ (Kd.C_below C_c.out HB_w39.out) L_c.out Z2.out).mono ?_
        rintro e w40 ⟨v_cc, rfl, r_cc, b⟩
        have bb := below_then HB_w39.out HB_w39.out.size b
        replace HR0 := Aside0.mk (Kd.C_below HR0.out bb)
        replace C_p := Aside0.mk (Kd.C_below C_p.out bb)
        replace C_c := Aside0.mk (Kd.C_below C_c.out bb)
        replace C_d := Aside0.mk (Kd.C_below C_d.out bb)
        replace C_e := Aside0.mk (Kd.C_below C_e.out bb)
        replace C_a := Aside0.mk (Kd.C_below C_a.out bb)
        replace C_x := Aside0.mk (Kd.C_below C_x.out bb)
        replace C_t := Aside0.mk (Kd.C_below C_t.out bb)
        replace BW := Aside0.mk (below_then BW.out BW.out.size bb)
        replace BX1 := Aside0.mk (below_then BX1.out BX1.out.size bb)
        clear bb HB_w39
        obtain ⟨A_cc, c_cc, rfl⟩ := Kd.R_slice r_cc
        have C_cc := Aside0.mk (Kd.R_reads' r_cc).2.2
        have L_cc := Aside0.mk (Kd.R_reads' r_cc).2.1
        clear b r_cc
        go_wp2_with fail
        -- laws_sameInts
        refine (laws_sameInts.calls k _ _ lcc _ _ lp true _ C_cc.out L_cc.out C_p.out L_p.out Z3.out).mono ?_
        rintro e w41 ⟨rfl, hd_⟩
        have b := drawn_below hd_
        clear hd_
        have HB_w41 := Aside0.mk b
        clear b
        go_wp2_with fail
        go_meet
        case rel => exact ⟨by first | rfl | (simp; done), ⟨(below_then BX1.out BX1.out.size HB_w41.out)⟩⟩
      | false =>
        go_wp2_with fail
        -- spec_PartitionText
        refine (spec_PartitionText.calls k _ _ lp tx _ C_p.out L_p.out T3.out).mono ?_
        rintro e w42 ⟨rfl, b⟩
        have HB_w42 := Aside0.mk b
        clear b
        go_wp2_with fail
        -- spec_IsPartition
        refine (spec_IsPartition.calls k _ _ lp false _ (Kd.C_below C_p.out HB_w42.out) L_p.out E18.out).mono ?_
        rintro e w43 ⟨rfl, hd_⟩
        have b := drawn_below hd_
        clear hd_
        have HB_w43 := Aside0.mk (below_then HB_w42.out HB_w42.out.size b)
        clear b HB_w42
        go_wp2_with fail
        go_meet
        case rel => exact ⟨by first | rfl | (simp; done), ⟨(below_then BX1.out BX1.out.size HB_w43.out)⟩⟩
    case rest =>
      clear BX1
      obtain ⟨rfl, HBc1⟩ := hcut
      obtain ⟨wd1, hwd_⟩ : ∃ x, x = wc := ⟨_, rfl⟩
      subst hwd_
      go_upto_region 24 with fail
      try simp only [Act.put, List.setIfInBounds_toArray, List.set_cons_zero, List.set_cons_succ]
      have bb := HBc1.out
      replace HR0 := Aside0.mk (Kd.C_below HR0.out bb)
      replace C_p := Aside0.mk (Kd.C_below C_p.out bb)
      replace C_c := Aside0.mk (Kd.C_below C_c.out bb)
      replace C_d := Aside0.mk (Kd.C_below C_d.out bb)
      replace C_e := Aside0.mk (Kd.C_below C_e.out bb)
      replace C_a := Aside0.mk (Kd.C_below C_a.out bb)
      replace C_x := Aside0.mk (Kd.C_below C_x.out bb)
      replace C_t := Aside0.mk (Kd.C_below C_t.out bb)
      replace BW := Aside0.mk (below_then BW.out BW.out.size bb)
      clear bb HBc1
      have BX2 := Aside0.mk (Below.refl wd1.heap.size wd1)
      go_cut [227] (fun v227 wc => v227 = .bool false ∧ Aside0 (Below wd1.heap.size wd1 wc))
      case first =>
        cases bd with
        | true =>
          obtain ⟨lce, lcd, y1, y2, y3⟩ := Y2.out rfl
          have Z1 := Aside0.mk y1
          have Z2 := Aside0.mk y2
          have Z3 := Aside0.mk y3
          clear y1 y2 y3
          go_wp2_with fail
          -- spec_Dominates
          refine (spec_Dominates.calls k _ _ ld _ _ le true _ C_d.out L_d.out C_e.out L_e.out E8.out).mono ?_
          rintro e w44 ⟨rfl, hd_⟩
          have b := drawn_below hd_
          clear hd_
          have HB_w44 := Aside0.mk b
          clear b
          go_wp2_with fail
          -- spec_Conjugate
          refine (spec_Conjugate.calls k _ _ le lce _ (Kd.C_below C_e.out HB_w44.out) L_e.out Z1.out).mono ?_
          rintro e w45 ⟨v_ce, rfl, r_ce, b⟩
          have bb := below_then HB_w44.out HB_w44.out.size b
          replace HR0 := Aside0.mk (Kd.C_below HR0.out bb)
          replace C_p := Aside0.mk (Kd.C_below C_p.out bb)
          replace C_c := Aside0.mk (Kd.C_below C_c.out bb)
          replace C_d := Aside0.mk (Kd.C_below C_d.out bb)
          replace C_e := Aside0.mk (Kd.C_below C_e.out bb)
          replace C_a := Aside0.mk (Kd.C_below C_a.out bb)
          replace C_x := Aside0.mk (Kd.C_below C_x.out bb)
          replace C_t := Aside0.mk (Kd.C_below C_t.out bb)
          replace BW := Aside0.mk (below_then BW.out BW.out.size bb)
          replace BX2 := Aside0.mk (below_then BX2.out BX2.out.size bb)
          clear bb HB_w44
          obtain ⟨A_ce, c_ce, rfl⟩ := Kd.R_slice r_ce
          have C_ce := Aside0.mk (Kd.R_reads' r_ce).2.2
          have L_ce := Aside0.mk (Kd.R_reads' r_ce).2.1
          clear b r_ce
          go_wp2_with fail
          -- spec_Conjugate
          refine (spec_Conjugate.calls k _ _ ld lcd _ C_d.out L_d.out Z2.out).mono ?_
          rintro e w46 ⟨v_cd, rfl, r_cd, b⟩
          have bb := b
          replace HR0 := Aside0.mk (Kd.C_below HR0.out bb)
          replace C_p := Aside0.mk (Kd.C_below C_p.out bb)
          replace C_c := Aside0.mk (Kd.C_below C_c.out bb)
          replace C_d := Aside0.mk (Kd.C_below C_d.out bb)
          replace C_e := Aside0.mk (Kd.C_below C_e.out bb)
          replace C_a := Aside0.mk (Kd.C_below C_a.out bb)
          replace C_x := Aside0.mk (Kd.C_below C_x.out bb)
          replace C_t := Aside0.mk (Kd.C_below C_t.out bb)
          replace C_ce := Aside0.mk (Kd.C_below C_ce.out bb)
          replace BW := Aside0.mk (below_then BW.out BW.out.size bb)
          replace BX2 := Aside0.mk (below_then BX2.out BX2.out.size bb)
          clear bb
          obtain ⟨A_cd, c_cd, rfl⟩ := Kd.R_slice r_cd
          have C_cd := Aside0.mk (Kd.R_reads' r_cd).2.2
          have L_cd := Aside0.mk (Kd.R_reads' r_cd).2.1
          clear b r_cd
          go_wp2_with fail
          -- impl_Dominates
          refine (impl_Dominates.calls k _ _ lce _ _ lcd true _ C_ce.out L_ce.out C_cd.out L_cd.out Z3.out).mono ?_
          rintro e w47 ⟨rfl, hd_⟩
          have b := drawn_below hd_
          clear hd_
          have HB_w47 := Aside0.mk b
          clear b
          go_wp2_with fail
          go_meet
          case rel => exact ⟨by first | rfl | (simp; done), ⟨(below_then BX2.out BX2.out.size HB_w47.out)⟩⟩
        | false =>
          go_wp2_with fail
          -- spec_Dominates
          refine (spec_Dominates.calls k _ _ ld _ _ le false _ C_d.out L_d.out C_e.out L_e.out E8.out).mono ?_
          rintro e w48 ⟨rfl, hd_⟩
          have b := drawn_below hd_
          clear hd_
          have HB_w48 := Aside0.mk b
          clear b
          go_wp2_with fail
          go_meet
          case rel => exact ⟨by first | rfl | (simp; done), ⟨(below_then BX2.out BX2.out.size HB_w48.out)⟩⟩
      case rest =>
        clear BX2
        obtain ⟨rfl, HBc2⟩ := hcut
        obtain ⟨wd2, hwd_⟩ : ∃ x, x = wc := ⟨_, rfl⟩
        subst hwd_
        cases one with
        | true =>
          obtain ⟨lf, y1, y2⟩ := Y3.out rfl
          have Z1 := Aside0.mk y1
          have Z2 := Aside0.mk y2
          clear y1 y2
          go_wp2_with fail
          -- impl_RemoveBox
          refine (impl_RemoveBox.calls k _ _ lx row lf true _ (Kd.C_below C_x.out HBc2.out) L_x.out Z1.out).mono ?_
          rintro e w49 ⟨v_f, rfl, r_f, b⟩
          have bb := below_then HBc2.out HBc2.out.size b
          replace HR0 := Aside0.mk (Kd.C_below HR0.out bb)
          replace C_p := Aside0.mk (Kd.C_below C_p.out bb)
          replace C_c := Aside0.mk (Kd.C_below C_c.out bb)
          replace C_d := Aside0.mk (Kd.C_below C_d.out bb)
          replace C_e := Aside0.mk (Kd.C_below C_e.out bb)
          replace C_a := Aside0.mk (Kd.C_below C_a.out bb)
          replace C_x := Aside0.mk (Kd.C_below C_x.out bb)
          replace C_t := Aside0.mk (Kd.C_below C_t.out bb)
          replace BW := Aside0.mk (below_then BW.out BW.out.size bb)
          clear bb HBc2
          obtain ⟨A_f, c_f, rfl⟩ := Kd.R_slice r_f
          have C_f := Aside0.mk (Kd.R_reads' r_f).2.2
          clear b r_f
          simp only [clipV_slice]
          go_wp2_with fail
          -- laws_sameInts
          refine (laws_sameInts.calls k _ _ lf _ _ la true _ C_f.out (Nat.le_refl _) C_a.out L_a.out Z2.out).mono ?_
          rintro e w50 ⟨rfl, hd_⟩
          have b := drawn_below hd_
          clear hd_
          have HB_w50 := Aside0.mk b
          clear b
          go_wp2_with fail
          go_ret
          exact ⟨by first | rfl | (simp; done), (below_then BW.out BW.out.size HB_w50.out)⟩
        | false =>
          go_wp2_with fail
          go_ret
          exact ⟨by first | rfl | (simp; done), (below_then BW.out BW.out.size HBc2.out)⟩

end Go.Proofs.YtcnpdiiecopccaaGreatDoor.QFnPartitions
