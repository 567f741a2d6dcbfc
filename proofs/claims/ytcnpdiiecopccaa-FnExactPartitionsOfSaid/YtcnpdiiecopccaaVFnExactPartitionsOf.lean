/- This session's own text: the walk of the law FnExactPartitionsOf: where the facts of its plain functions hold it returns true and nothing that lay before has turned. No condition beyond those that the statement bears. -/
import Derived.Test.YtcnpdiiecopccaaMFnExactPartitionsOf
namespace Go.Proofs.Ytcnpdiiecopccaa.QFnExactPartitionsOf
open Go.RowKit Go.Proofs.YtcnpdiiecopccaaW.PrintWords Go.Proofs.YtcnpdiiecopccaaW.PrintLast Go.Proofs.YtcnpdiiecopccaaW.PrintMore
set_option linter.unusedVariables false
set_option linter.unusedSimpArgs false

structure laws_FnExactPartitionsOf.ok (k : Nat) (a0 : Int) : Prop where
  big : ∃ (L zs : List (List Int)) (m2 : Int), spec_PartitionsOf.f k a0 = some L ∧ impl_PartitionsOf.f k a0 = some L ∧ laws_eqIntSS.f k L L = some true ∧ laws_markIntSS.f k L 1 = some (m2, zs) ∧ 0 ≤ m2 ∧ laws_heldIntSS.f k zs 1 = some m2

set_option maxHeartbeats 16000000 in
set_option maxRecDepth 100000 in
theorem laws_FnExactPartitionsOf.calls (k : Nat) (a0 : Int) (w : World) (h : laws_FnExactPartitionsOf.ok k a0) :
    Calls Try.prog 11 #[.int .i64 a0] w fun e w' => e = .returned (.bool true) ∧ Below w.heap.size w w' := by
  rcases h.big with ⟨L, zs, m2, f2, f3, f4, f8, f9, f10⟩
  have d2 : decide (m2 < 0) = false := decide_eq_false (by omega)
  have F2 := Aside0.mk f2
  have F3 := Aside0.mk f3
  have F4 := Aside0.mk f4
  have F8 := Aside0.mk f8
  have F10 := Aside0.mk f10
  clear f2 f3 f4 f8 f9 f10 h
  go_enter Try.func11, Try.ntmps11
  go_wp2_with fail
  -- w0
  refine (spec_PartitionsOf.calls k _ L _ F2.out).mono ?_
  rintro e w2 ⟨v2, rfl, s2, b2⟩
  obtain ⟨A2, c2, rfl⟩ := Kd.S_slice s2
  have S2 := Aside0.mk (Kd.S_mono (ok' := fun k_ => w.heap.size ≤ k_ ∧ k_ < w2.heap.size) (Kd.S_bound s2) (fun k_ hk_ => ⟨hk_.2.1, hk_.2.2.1⟩))
  have B2 := Aside0.mk b2
  have Z2 := Aside0.mk b2.size
  clear s2 b2
  go_wp2_with fail
  -- g0
  refine (impl_PartitionsOf.calls k _ L _ F3.out).mono ?_
  rintro e w4 ⟨v4, rfl, s4, b4⟩
  obtain ⟨A4, c4, rfl⟩ := Kd.S_slice s4
  have S4 := Aside0.mk (Kd.S_lower (base' := w.heap.size) (Kd.S_mono (ok' := fun k_ => w2.heap.size ≤ k_ ∧ k_ < w4.heap.size) (Kd.S_bound s4) (fun k_ hk_ => ⟨hk_.2.1, hk_.2.2.1⟩)) B2.out.size)
  have B4 := Aside0.mk (below_then B2.out B2.out.size b4)
  have Z4 := Aside0.mk b4.size
  have S2c := Aside0.mk (Kd.S_below S2.out b4)
  clear s4 b4 S2
  go_wp2_with fail
  -- eqIntSS(g0, w0)
  refine (laws_eqIntSS.calls k _ _ L _ _ L true _ (Kd.S_reads' S4.out).2.2 (Kd.S_reads' S4.out).2.1 (Kd.S_reads' S2c.out).2.2 (Kd.S_reads' S2c.out).2.1 F4.out).mono ?_
  rintro e w9 ⟨rfl, ⟨n9, rfl⟩⟩
  go_wp2_with fail
  -- markIntSS(g0, 1)
  refine (laws_markIntSS.calls k (fun k_ => w2.heap.size ≤ k_ ∧ k_ < w4.heap.size) _ L 1 m2 zs w _ (pw_below_drewN B4.out n9) (Kd.S_drewN S4.out n9) F8.out).mono ?_
  rintro e w10 ⟨rfl, s10, b10, k10⟩
  have hz2 : w.heap.size ≤ w2.heap.size := Z2.out
  have S2f := Aside0.mk (Kd.S_step (Kd.S_drewN S2c.out n9) (fun k_ hk_ hl_ => k10.2 k_ hl_ (fun hn_ => by omega)))
  have S10 := Aside0.mk s10
  have B10 := Aside0.mk b10
  clear s10 b10 k10 S2c S4 hz2
  go_wp2_with fail
  -- heldIntSS(g0, 1)
  have E10 := Aside0.mk (Kd.S_reads' S10.out).1
  refine (calls_of_args (by rw [E10.out]) (laws_heldIntSS.calls k _ _ zs 1 m2 _ (Kd.S_reads' S10.out).2.2 (by rw [← E10.out]; exact (Kd.S_reads' S10.out).2.1) F10.out)).mono ?_
  rintro e w11 ⟨rfl, ⟨n11, rfl⟩⟩
  go_wp2_with fail
  -- h0
  refine (impl_PartitionsOf.calls k _ L _ F3.out).mono ?_
  rintro e w13 ⟨v13, rfl, s13, b13⟩
  obtain ⟨A13, c13, rfl⟩ := Kd.S_slice s13
  have S13 := Aside0.mk s13
  have B13 := Aside0.mk (below_then (pw_below_drewN B10.out n11) B10.out.size b13)
  have S2h := Aside0.mk (Kd.S_below (Kd.S_drewN S2f.out n11) b13)
  have S10c := Aside0.mk (Kd.S_below (Kd.S_drewN S10.out n11) b13)
  clear s13 b13 S2f S10
  go_wp2_with fail
  -- eqIntSS(h0, w0)
  refine (laws_eqIntSS.calls k _ _ L _ _ L true _ (Kd.S_reads' S13.out).2.2 (Kd.S_reads' S13.out).2.1 (Kd.S_reads' S2h.out).2.2 (Kd.S_reads' S2h.out).2.1 F4.out).mono ?_
  rintro e w14 ⟨rfl, ⟨n14, rfl⟩⟩
  go_wp2_with fail
  -- heldIntSS(g0, 1)
  refine (calls_of_args (by rw [E10.out]) (laws_heldIntSS.calls k _ _ zs 1 m2 _ (Kd.C_drewN (Kd.S_reads' S10c.out).2.2 _) (by rw [← E10.out]; exact (Kd.S_reads' S10c.out).2.1) F10.out)).mono ?_
  rintro e w15 ⟨rfl, ⟨n15, rfl⟩⟩
  go_wp2_with fail
  go_ret
  exact ⟨rfl, pw_below_drewN B13.out _⟩

end Go.Proofs.Ytcnpdiiecopccaa.QFnExactPartitionsOf
