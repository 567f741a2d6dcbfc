/- This session's own text: spec.l2Two and the two draws that hand its rows on, as plain Lean functions, each with the proof that the call does just that. No condition beyond those that each statement bears. -/
import Derived.Test.YtcnpdiiecopccaaGreatDoorQFnPartitionsx1
import Derived.Test.YtcnpdiiecopccaaGreatDoorQFnPartitionsx2
namespace Go.Proofs.YtcnpdiiecopccaaGreatDoor.QFnPartitions
open Go.Proofs.YtcnpdiiecopccaaGreatDoor.Short Go.RowKit Go.Proofs.YtcnpdiiecopccaaGreatDoorW.PrintWords Go.Proofs.YtcnpdiiecopccaaGreatDoorW.PrintLast Go.Proofs.YtcnpdiiecopccaaGreatDoorW.PrintMore
set_option linter.unusedVariables false
set_option linter.unusedSimpArgs false
def spec_l2Two.f (k : Nat) (l0 : List Int) : Option (List Int × List Int) := (spec_l1New.f k l0).bind fun c => ((spec_l2Bent.f k c.1 c.2.1 c.2.2 7).bind fun p => ((spec_l1Once.f c.1 p.2.1 p.2.2 2).bind fun b => (if b.1 = true then ((spec_l1Below.f c.1 b.2.1 b.2.2 8).bind fun n => ((spec_l2All.f k n.1 8).bind fun all => ((spec_l1Below.f c.1 n.2.1 n.2.2 (all.length : Int)).bind fun j => (if 0 ≤ j.1 then (if j.1 < (all.length : Int) then (some (rd_L2 all j.1, p.1)) else none) else none)))) else ((spec_l2Bent.f k c.1 b.2.1 b.2.2 7).bind fun q => (some (q.1, p.1))))))
set_option maxHeartbeats 8000000 in
set_option maxRecDepth 100000 in
theorem spec_l2Two.calls (k : Nat) (A0 : Option Addr) (c0 : Nat) (l0 : List Int) (r1 : List Int) (r2 : List Int) (w : World) (hr0 : Kd.C (Kd.int .u8) w A0 l0.length l0) (hc0 : l0.length ≤ c0) (h : spec_l2Two.f k l0 = some (r1, r2)) :
    Calls Tryz.prog 42 #[.slice A0 l0.length c0] w fun e w' => ∃ (A1 : Option Addr) (c1 : Nat) (A2 : Option Addr) (c2 : Nat), e = .returned (.tuple #[.slice A1 r1.length c1, .slice A2 r2.length c2]) ∧ Kd.C (Kd.int .i64) w' A1 r1.length r1 ∧ r1.length ≤ c1 ∧ Kd.C (Kd.int .i64) w' A2 r2.length r2 ∧ r2.length ≤ c2 ∧ Below w.heap.size w w' := by
  have HR0 := Aside0.mk hr0
  have HC0 := Aside0.mk hc0
  clear hr0 hc0
  obtain ⟨⟨s, x1, x2⟩, A1, h⟩ := Option.bind_eq_some_iff.mp h
  obtain ⟨⟨p, p1, p2⟩, A2, h⟩ := Option.bind_eq_some_iff.mp h
  obtain ⟨⟨b, b1, b2⟩, A3, h⟩ := Option.bind_eq_some_iff.mp h
  dsimp only at A2 A3 h
  have F1 := Aside0.mk A1
  have F2 := Aside0.mk A2
  have F3 := Aside0.mk A3
  clear A1 A2 A3
  go_enter Tryz.func42, Tryz.ntmps42
  go_wp2_with fail
  refine (spec_l1New.calls k _ _ l0 s x1 x2 w _ (Below.refl _ _) HR0.out HC0.out F1.out).mono ?_
  rintro e w1 ⟨g, rfl, hi1, hb1, _⟩
  have I1 := Aside0.mk hi1
  have B1 := Aside0.mk hb1
  clear hi1 hb1
  go_wp2_with fail
  refine (spec_l2Bent.calls k g s x1 x2 7 p p1 p2 w _ I1.out B1.out F2.out).mono ?_
  rintro e w2 ⟨v, rfl, HP, hi2, hb2, _⟩
  obtain ⟨Ap, cp, rfl⟩ := Kd.R_slice HP
  have I2 := Aside0.mk hi2
  have B2 := Aside0.mk hb2
  have P2 := Aside0.mk HP
  clear I1 B1 hi2 hb2 HP
  go_wp2_with fail
  refine (spec_l1Once.calls g s p1 p2 2 b b1 b2 w _ I2.out B2.out F3.out).mono ?_
  rintro e w3 ⟨rfl, hi3, hb3, hk3⟩
  have P3 := Aside0.mk (Kd.R_mono (Kd.R_keep (IsS60.apart I2.out P2.out (by decide)) hk3 (fun _ h => h.2)) (fun _ h => h.1))
  have I3 := Aside0.mk hi3
  have B3 := Aside0.mk hb3
  clear I2 B2 P2 hi3 hb3 hk3
  cases b with
  | false =>
    rw [if_neg (by decide)] at h
    obtain ⟨⟨q, q1, q2⟩, A4, h⟩ := Option.bind_eq_some_iff.mp h
    dsimp only at A4 h
    simp only [Option.some.injEq, Prod.mk.injEq] at h
    obtain ⟨rfl, rfl⟩ := h
    have F4 := Aside0.mk A4
    clear A4
    go_wp2_with fail
    refine (spec_l2Bent.calls k g s b1 b2 7 q q1 q2 w _ I3.out B3.out F4.out).mono ?_
    rintro e w4 ⟨v4, rfl, HQ, hi4, hb4, hk4⟩
    obtain ⟨Aq, cq, rfl⟩ := Kd.R_slice HQ
    have P4 := Aside0.mk (Kd.R_mono (Kd.R_keep (IsS60.apart I3.out P3.out (by decide)) hk4 (fun _ h => h.2)) (fun _ h => h.1))
    have Q4 := Aside0.mk HQ
    have B4 := Aside0.mk hb4
    clear I3 B3 P3 HQ hi4 hb4 hk4
    go_wp2_with fail
    go_ret2
    exact ⟨Aq, cq, Ap, cp, rfl, (Kd.R_reads' Q4.out).2.2, (Kd.R_reads' Q4.out).2.1, (Kd.R_reads' P4.out).2.2, (Kd.R_reads' P4.out).2.1, B4.out⟩
  | true =>
    rw [if_pos rfl] at h
    obtain ⟨⟨n, n1, n2⟩, A4, h⟩ := Option.bind_eq_some_iff.mp h
    obtain ⟨all, A5, h⟩ := Option.bind_eq_some_iff.mp h
    obtain ⟨⟨j, j1, j2⟩, A6, h⟩ := Option.bind_eq_some_iff.mp h
    dsimp only at A4 A5 A6 h
    by_cases hj0 : 0 ≤ j
    · rw [if_pos hj0] at h
      by_cases hj1 : j < (all.length : Int)
      · rw [if_pos hj1] at h
        simp only [Option.some.injEq, Prod.mk.injEq] at h
        obtain ⟨rfl, rfl⟩ := h
        have F4 := Aside0.mk A4
        have F5 := Aside0.mk A5
        have F6 := Aside0.mk A6
        have J0 := Aside0.mk hj0
        have J1 := Aside0.mk hj1
        clear A4 A5 A6 hj0 hj1
        go_wp2_with fail
        refine (spec_l1Below.calls g s b1 b2 8 n n1 n2 w _ I3.out B3.out F4.out).mono ?_
        rintro e w4 ⟨rfl, hi4, hb4, hk4⟩
        have P4 := Aside0.mk (Kd.R_mono (Kd.R_keep (IsS60.apart I3.out P3.out (by decide)) hk4 (fun _ h => h.2)) (fun _ h => h.1))
        have I4 := Aside0.mk hi4
        have B4 := Aside0.mk hb4
        clear I3 B3 P3 hi4 hb4 hk4
        go_wp2_with fail
        refine (spec_l2All.calls k n 8 all _ F5.out).mono ?_
        rintro e w5 ⟨va, rfl, hs, bb⟩
        obtain ⟨Aa, ca, rfl⟩ := Kd.S_slice hs
        have P5 := Aside0.mk (Kd.R_below P4.out bb)
        have I5 := Aside0.mk (IsS60.below I4.out bb)
        have B5 := Aside0.mk (below_then B4.out B4.out.size bb)
        have S5 := Aside0.mk hs
        clear I4 B4 P4 hs bb
        go_wp2_with fail
        refine (spec_l1Below.calls g s n1 n2 (all.length : Int) j j1 j2 w _ I5.out B5.out F6.out).mono ?_
        rintro e w6 ⟨rfl, hi6, hb6, hk6⟩
        have P6 := Aside0.mk (Kd.R_mono (Kd.R_keep (IsS60.apart I5.out P5.out (by decide)) hk6 (fun _ h => h.2)) (fun _ h => h.1))
        have S6 := Aside0.mk (Kd.S_mono (Kd.S_keep (IsS60.apartS I5.out S5.out (by decide)) hk6 (fun _ h => h.2)) (fun _ h => h.1))
        have B6 := Aside0.mk hb6
        clear I5 B5 P5 S5 hi6 hb6 hk6
        have p149 := J0.out
        have q149 := J1.out
        obtain ⟨ad, Ar, cr, er, hx, hl, hr⟩ := at_L2 (Kd.S_reads' S6.out).2.2 j p149 q149
        cases er
        have R6 := Aside0.mk hr
        have L6 := Aside0.mk hl
        clear hr hl
        have p149b : decide (0 ≤ j) = true := decide_eq_true p149
        have q149b : decide (j < (all.length : Int)) = true := decide_eq_true q149
        replace p149 := eq_true p149
        replace q149 := eq_true q149
        go_wp2_with fail
        go_ret2
        exact ⟨_, _, Ap, cp, rfl, R6.out, L6.out, (Kd.R_reads' P6.out).2.2, (Kd.R_reads' P6.out).2.1, B6.out⟩
      · rw [if_neg hj1] at h
        cases h
    · rw [if_neg hj0] at h
      cases h
def spec_DrawIsInside.f (k : Nat) (l0 : List Int) : Option (List Int × List Int) := spec_l2Two.f k l0
set_option maxHeartbeats 8000000 in
set_option maxRecDepth 100000 in
theorem spec_DrawIsInside.calls (k : Nat) (A0 : Option Addr) (c0 : Nat) (l0 : List Int) (r1 : List Int) (r2 : List Int) (w : World) (hr0 : Kd.C (Kd.int .u8) w A0 l0.length l0) (hc0 : l0.length ≤ c0) (h : spec_DrawIsInside.f k l0 = some (r1, r2)) :
    Calls Tryz.prog 9 #[.slice A0 l0.length c0] w fun e w' => ∃ (A1 : Option Addr) (c1 : Nat) (A2 : Option Addr) (c2 : Nat), e = .returned (.tuple #[.slice A1 r1.length c1, .slice A2 r2.length c2]) ∧ Kd.C (Kd.int .i64) w' A1 r1.length r1 ∧ r1.length ≤ c1 ∧ Kd.C (Kd.int .i64) w' A2 r2.length r2 ∧ r2.length ≤ c2 ∧ Below w.heap.size w w' := by
  have HR0 := Aside0.mk hr0
  have HC0 := Aside0.mk hc0
  have H := Aside0.mk h
  clear hr0 hc0 h
  go_enter Tryz.func9, Tryz.ntmps9
  go_wp2_with fail
  refine (spec_l2Two.calls k _ _ l0 r1 r2 w HR0.out HC0.out H.out).mono ?_
  rintro e w1 ⟨A1, c1, A2, c2, rfl, h1, h2, h3, h4, hb⟩
  have H1 := Aside0.mk h1
  have H3 := Aside0.mk h3
  have HB := Aside0.mk hb
  clear h1 h3 hb
  go_wp2_with fail
  go_ret2
  exact ⟨A1, c1, A2, c2, rfl, H1.out, h2, H3.out, h4, HB.out⟩
def spec_DrawDominates.f (k : Nat) (l0 : List Int) : Option (List Int × List Int) := spec_l2Two.f k l0
set_option maxHeartbeats 8000000 in
set_option maxRecDepth 100000 in
theorem spec_DrawDominates.calls (k : Nat) (A0 : Option Addr) (c0 : Nat) (l0 : List Int) (r1 : List Int) (r2 : List Int) (w : World) (hr0 : Kd.C (Kd.int .u8) w A0 l0.length l0) (hc0 : l0.length ≤ c0) (h : spec_DrawDominates.f k l0 = some (r1, r2)) :
    Calls Tryz.prog 10 #[.slice A0 l0.length c0] w fun e w' => ∃ (A1 : Option Addr) (c1 : Nat) (A2 : Option Addr) (c2 : Nat), e = .returned (.tuple #[.slice A1 r1.length c1, .slice A2 r2.length c2]) ∧ Kd.C (Kd.int .i64) w' A1 r1.length r1 ∧ r1.length ≤ c1 ∧ Kd.C (Kd.int .i64) w' A2 r2.length r2 ∧ r2.length ≤ c2 ∧ Below w.heap.size w w' := by
  have HR0 := Aside0.mk hr0
  have HC0 := Aside0.mk hc0
  have H := Aside0.mk h
  clear hr0 hc0 h
  go_enter Tryz.func10, Tryz.ntmps10
  go_wp2_with fail
  refine (spec_l2Two.calls k _ _ l0 r1 r2 w HR0.out HC0.out H.out).mono ?_
  rintro e w1 ⟨A1, c1, A2, c2, rfl, h1, h2, h3, h4, hb⟩
  have H1 := Aside0.mk h1
  have H3 := Aside0.mk h3
  have HB := Aside0.mk hb
  clear h1 h3 hb
  go_wp2_with fail
  go_ret2
  exact ⟨A1, c1, A2, c2, rfl, H1.out, h2, H3.out, h4, HB.out⟩
end Go.Proofs.YtcnpdiiecopccaaGreatDoor.QFnPartitions
