/- This session's own text: the walk of the law FnExactHookLengths: where the facts of its plain functions hold it returns true and nothing that lay before has turned. No condition beyond those that the statement bears. -/
import Derived.Test.YthjbkkjiggdcpaaMFnExactHookLengths
namespace Go.Proofs.Ythjbkkjiggdcpaa.QFnExactHookLengths
open Go.RowKit Go.Proofs.YthjbkkjiggdcpaaW.PrintWords Go.Proofs.YthjbkkjiggdcpaaW.PrintLast Go.Proofs.YthjbkkjiggdcpaaW.PrintMore
set_option linter.unusedVariables false
set_option linter.unusedSimpArgs false

structure laws_FnExactHookLengths.ok (k : Nat) (l0 : List Int) : Prop where
  big : (l0.length : Int) > 1048576 ∨ ∃ (L zs : List (List Int)) (ys : List Int) (m1 m2 : Int), laws_toIntS.f k l0 = some l0 ∧ spec_HookLengths.f k l0 = some L ∧ impl_HookLengths.f k l0 = some L ∧ laws_eqIntSS.f k L L = some true ∧ laws_eqIntS.f k l0 l0 = some true ∧ laws_markIntS.f k l0 1 = some (m1, ys) ∧ 0 ≤ m1 ∧ laws_markIntSS.f k L 1 = some (m2, zs) ∧ 0 ≤ m2 ∧ laws_heldIntSS.f k zs 1 = some m2

set_option maxHeartbeats 16000000 in
set_option maxRecDepth 100000 in
theorem laws_FnExactHookLengths.calls (k : Nat) (A0 : Option Addr) (c0 : Nat) (l0 : List Int) (w : World) (hr0 : Kd.C (Kd.int .i64) w A0 l0.length l0) (hc0 : l0.length ≤ c0) (h : laws_FnExactHookLengths.ok k l0) :
    Calls Try.prog 13 #[.slice A0 l0.length c0] w fun e w' => e = .returned (.bool true) ∧ Below w.heap.size w w' := by
  rcases h.big with hbig | ⟨L, zs, ys, m1, m2, f1, f2, f3, f4, f5, f6, f7, f8, f9, f10⟩
  · have c2b0 : decide (1048576 < (l0.length : Int)) = true := decide_eq_true hbig
    have c2b1 : decide (1048576 < l0.length) = true := decide_eq_true (by omega)
    clear hbig
    go_enter Try.func13, Try.ntmps13
    go_wp2
    go_ret
    exact ⟨rfl, Below.refl _ _⟩
  · by_cases hbig : (l0.length : Int) > 1048576
    · have c2b0 : decide (1048576 < (l0.length : Int)) = true := decide_eq_true hbig
      have c2b1 : decide (1048576 < l0.length) = true := decide_eq_true (by omega)
      clear hbig f1 f2 f3 f4 f5 f6 f7 f8 f9 f10
      go_enter Try.func13, Try.ntmps13
      go_wp2
      go_ret
      exact ⟨rfl, Below.refl _ _⟩
    have c2b0 : decide (1048576 < (l0.length : Int)) = false := decide_eq_false hbig
    have c2b1 : decide (1048576 < l0.length) = false := decide_eq_false (by omega)
    clear hbig
    have d1 : decide (m1 < 0) = false := decide_eq_false (by omega)
    have d2 : decide (m2 < 0) = false := decide_eq_false (by omega)
    have F1 := Aside0.mk f1
    have F2 := Aside0.mk f2
    have F3 := Aside0.mk f3
    have F4 := Aside0.mk f4
    have F5 := Aside0.mk f5
    have F6 := Aside0.mk f6
    have F8 := Aside0.mk f8
    have F10 := Aside0.mk f10
    have HR0 := Aside0.mk hr0
    have HC0 := Aside0.mk hc0
    clear f1 f2 f3 f4 f5 f6 f7 f8 f9 f10 hr0 hc0 h
    go_enter Try.func13, Try.ntmps13
    go_wp2_with fail
    -- toIntS(aP)
    refine (laws_toIntS.calls k _ _ l0 l0 _ HR0.out HC0.out F1.out).mono ?_
    rintro e w1 ⟨v1, rfl, r1, b1⟩
    obtain ⟨A1, c1, rfl⟩ := Kd.R_slice r1
    have R1 := Aside0.mk r1
    have B1 := Aside0.mk b1
    clear r1 b1
    go_wp2_with fail
    -- w0
    refine (spec_HookLengths.calls k _ _ l0 L _ (Kd.R_reads' R1.out).2.2 (Kd.R_reads' R1.out).2.1 F2.out).mono ?_
    rintro e w2 ⟨v2, rfl, s2, b2⟩
    obtain ⟨A2, c2, rfl⟩ := Kd.S_slice s2
    have S2 := Aside0.mk (Kd.S_mono (ok' := fun k_ => w1.heap.size ≤ k_ ∧ k_ < w2.heap.size) (Kd.S_bound s2) (fun k_ hk_ => ⟨hk_.2.1, hk_.2.2.1⟩))
    have B2 := Aside0.mk (below_then B1.out B1.out.size b2)
    have Z2 := Aside0.mk b2.size
    clear s2 b2 R1
    go_wp2_with fail
    -- x0
    refine (laws_toIntS.calls k _ _ l0 l0 _ (Kd.C_below HR0.out B2.out) HC0.out F1.out).mono ?_
    rintro e w3 ⟨v3, rfl, r3, b3⟩
    obtain ⟨A3, c3, rfl⟩ := Kd.R_slice r3
    have R3 := Aside0.mk (Kd.R_lower (base' := w.heap.size) (Kd.R_mono (ok' := fun k_ => w2.heap.size ≤ k_ ∧ k_ < w3.heap.size) (Kd.R_bound r3) (fun k_ hk_ => ⟨hk_.2.1, hk_.2.2.1⟩)) B2.out.size)
    have B3 := Aside0.mk (below_then B2.out B2.out.size b3)
    have Z3 := Aside0.mk b3.size
    have S2b := Aside0.mk (Kd.S_below S2.out b3)
    clear r3 b3 S2
    go_wp2_with fail
    -- g0
    refine (impl_HookLengths.calls k _ _ l0 L _ (Kd.R_reads' R3.out).2.2 (Kd.R_reads' R3.out).2.1 F3.out).mono ?_
    rintro e w4 ⟨v4, rfl, s4, b4⟩
    obtain ⟨A4, c4, rfl⟩ := Kd.S_slice s4
    have S4 := Aside0.mk (Kd.S_lower (base' := w.heap.size) (Kd.S_mono (ok' := fun k_ => w3.heap.size ≤ k_ ∧ k_ < w4.heap.size) (Kd.S_bound s4) (fun k_ hk_ => ⟨hk_.2.1, hk_.2.2.1⟩)) B3.out.size)
    have B4 := Aside0.mk (below_then B3.out B3.out.size b4)
    have Z4 := Aside0.mk b4.size
    have S2c := Aside0.mk (Kd.S_below S2b.out b4)
    have R3b := Aside0.mk (Kd.R_below R3.out b4)
    clear s4 b4 S2b R3
    go_wp2_with fail
    -- eqIntSS(g0, w0)
    refine (laws_eqIntSS.calls k _ _ L _ _ L true _ (Kd.S_reads' S4.out).2.2 (Kd.S_reads' S4.out).2.1 (Kd.S_reads' S2c.out).2.2 (Kd.S_reads' S2c.out).2.1 F4.out).mono ?_
    rintro e w5 ⟨rfl, ⟨n5, rfl⟩⟩
    go_wp2_with fail
    -- toIntS(aP)
    refine (laws_toIntS.calls k _ _ l0 l0 _ (Kd.C_drewN (Kd.C_below HR0.out B4.out) _) HC0.out F1.out).mono ?_
    rintro e w6 ⟨v6, rfl, r6, b6⟩
    obtain ⟨A6, c6, rfl⟩ := Kd.R_slice r6
    have R6 := Aside0.mk r6
    have B6 := Aside0.mk (below_then (pw_below_drewN B4.out n5) B4.out.size b6)
    have Z6 := Aside0.mk b6.size
    have S2d := Aside0.mk (Kd.S_below (Kd.S_drewN S2c.out n5) b6)
    have S4b := Aside0.mk (Kd.S_below (Kd.S_drewN S4.out n5) b6)
    have R3c := Aside0.mk (Kd.R_below (Kd.R_drewN R3b.out n5) b6)
    clear r6 b6 S2c S4 R3b
    go_wp2_with fail
    -- eqIntS(x0, ..)
    refine (laws_eqIntS.calls k _ _ l0 _ _ l0 true _ (Kd.R_reads' R3c.out).2.2 (Kd.R_reads' R3c.out).2.1 (Kd.R_reads' R6.out).2.2 (Kd.R_reads' R6.out).2.1 F5.out).mono ?_
    rintro e w7 ⟨rfl, ⟨n7, rfl⟩⟩
    go_wp2_with fail
    -- markIntS(x0, 1)
    refine (laws_markIntS.calls k (fun k_ => w2.heap.size ≤ k_ ∧ k_ < w3.heap.size) _ l0 1 m1 ys w _ (pw_below_drewN B6.out n7) (Kd.R_drewN R3c.out n7) F6.out).mono ?_
    rintro e w8 ⟨rfl, r8, b8, k8⟩
    have hz2 : w2.heap.size ≤ w3.heap.size := Z3.out
    have hz4 : w3.heap.size ≤ w4.heap.size := Z4.out
    have S2e := Aside0.mk (Kd.S_step (Kd.S_drewN S2d.out n7) (fun k_ hk_ hl_ => k8.2 k_ hl_ (fun hn_ => by omega)))
    have S4c := Aside0.mk (Kd.S_step (Kd.S_drewN S4b.out n7) (fun k_ hk_ hl_ => k8.2 k_ hl_ (fun hn_ => by omega)))
    have B8 := Aside0.mk b8
    clear r8 b8 k8 S2d S4b R3c R6 hz2 hz4
    go_wp2_with fail
    -- eqIntSS(g0, w0)
    refine (laws_eqIntSS.calls k _ _ L _ _ L true _ (Kd.S_reads' S4c.out).2.2 (Kd.S_reads' S4c.out).2.1 (Kd.S_reads' S2e.out).2.2 (Kd.S_reads' S2e.out).2.1 F4.out).mono ?_
    rintro e w9 ⟨rfl, ⟨n9, rfl⟩⟩
    go_wp2_with fail
    -- markIntSS(g0, 1)
    refine (laws_markIntSS.calls k (fun k_ => w3.heap.size ≤ k_ ∧ k_ < w4.heap.size) _ L 1 m2 zs w _ (pw_below_drewN B8.out n9) (Kd.S_drewN S4c.out n9) F8.out).mono ?_
    rintro e w10 ⟨rfl, s10, b10, k10⟩
    have hz2 : w2.heap.size ≤ w3.heap.size := Z3.out
    have S2f := Aside0.mk (Kd.S_step (Kd.S_drewN S2e.out n9) (fun k_ hk_ hl_ => k10.2 k_ hl_ (fun hn_ => by omega)))
    have S10 := Aside0.mk s10
    have B10 := Aside0.mk b10
    clear s10 b10 k10 S2e S4c hz2
    go_wp2_with fail
    -- heldIntSS(g0, 1)
    have E10 := Aside0.mk (Kd.S_reads' S10.out).1
    refine (calls_of_args (by rw [E10.out]) (laws_heldIntSS.calls k _ _ zs 1 m2 _ (Kd.S_reads' S10.out).2.2 (by rw [← E10.out]; exact (Kd.S_reads' S10.out).2.1) F10.out)).mono ?_
    rintro e w11 ⟨rfl, ⟨n11, rfl⟩⟩
    go_wp2_with fail
    -- toIntS(aP)
    refine (laws_toIntS.calls k _ _ l0 l0 _ (Kd.C_drewN (Kd.C_below HR0.out B10.out) _) HC0.out F1.out).mono ?_
    rintro e w12 ⟨v12, rfl, r12, b12⟩
    obtain ⟨A12, c12, rfl⟩ := Kd.R_slice r12
    have R12 := Aside0.mk r12
    have B12 := Aside0.mk (below_then (pw_below_drewN B10.out n11) B10.out.size b12)
    have S2g := Aside0.mk (Kd.S_below (Kd.S_drewN S2f.out n11) b12)
    have S10b := Aside0.mk (Kd.S_below (Kd.S_drewN S10.out n11) b12)
    clear r12 b12 S2f S10
    go_wp2_with fail
    -- h0
    refine (impl_HookLengths.calls k _ _ l0 L _ (Kd.R_reads' R12.out).2.2 (Kd.R_reads' R12.out).2.1 F3.out).mono ?_
    rintro e w13 ⟨v13, rfl, s13, b13⟩
    obtain ⟨A13, c13, rfl⟩ := Kd.S_slice s13
    have S13 := Aside0.mk s13
    have B13 := Aside0.mk (below_then B12.out B12.out.size b13)
    have S2h := Aside0.mk (Kd.S_below S2g.out b13)
    have S10c := Aside0.mk (Kd.S_below S10b.out b13)
    clear s13 b13 S2g S10b R12
    go_wp2_with fail
    -- eqIntSS(h0, w0)
    refine (laws_eqIntSS.calls k _ _ L _ _ L true _ (Kd.S_reads' S13.out).2.2 (Kd.S_reads' S13.out).2.1 (Kd.S_reads' S2h.out).2.2 (Kd.S_reads' S2h.out).2.1 F4.out).mono ?_
    rintro e w14 ⟨rfl, ⟨n14, rfl⟩⟩
    go_wp2_with fail
    -- heldIntSS(g0, 1)
    refine (calls_of_args (by rw [E10.out]) (laws_heldIntSS.calls k _ _ zs 1 m2 _ (Kd.C_drewN (Kd.S_reads' S10c.out).2.2 _) (by rw [← E10.out]; exact (Kd.S_reads' S10c.out).2.1) F10.out)).mono ?_
    rintro e w15 ⟨rfl, ⟨n15, rfl⟩⟩
    go_wp2_with fail
    go_ret
    exact ⟨rfl, pw_below_drewN B13.out _⟩

end Go.Proofs.Ythjbkkjiggdcpaa.QFnExactHookLengths
