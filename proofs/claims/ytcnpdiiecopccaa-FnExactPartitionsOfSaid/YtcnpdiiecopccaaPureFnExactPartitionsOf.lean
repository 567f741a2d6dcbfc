/- For every whole number the program's PartitionsOf and the reference's return the same lists, in memory of their own (the facts that the law's walk asks for; pure part here). No condition. -/
import Derived.Test.YtcnpdiiecopccaaVFnExactPartitionsOf
namespace Go.Proofs.Ytcnpdiiecopccaa.Pure
open Go.RowKit Go.Proofs.Ytcnpdiiecopccaa.QFnExactPartitionsOf Go.Proofs.YtcnpdiiecopccaaW.PrintWords Go.Proofs.YtcnpdiiecopccaaW.PrintLast
set_option linter.unusedVariables false
set_option linter.unusedSimpArgs false

theorem w64 {x : Int} (h1 : -9223372036854775808 ≤ x) (h2 : x ≤ 9223372036854775807) : wrap64 x = x := by
  unfold wrap64; omega

theorem rd_nat (xs : List Int) (i : Nat) (h : i < xs.length) : rd xs (i : Int) = xs[i] := by
  unfold rd; rw [Int.toNat_natCast]; simp [List.getD, h]

theorem succ_of_pos {d k : Nat} (h : d < k) : ∃ m, k = m + 1 := ⟨k - 1, by omega⟩

theorem wf_ints {l : List Int} (h : ∀ x ∈ l, (Lit.int .i64 x).wf = true) : ∀ x ∈ l, -9223372036854775808 ≤ x ∧ x ≤ 9223372036854775807 := by
  intro x hx
  have := h x hx
  simp [Lit.wf, IntKind.min, IntKind.max, IntKind.bits, IntKind.signed] at this
  omega

theorem wf_int {x : Int} (h : (Lit.int .i64 x).wf = true) : -9223372036854775808 ≤ x ∧ x ≤ 9223372036854775807 := by
  simp [Lit.wf, IntKind.min, IntKind.max, IntKind.bits, IntKind.signed] at h
  omega

def partB (n : Nat) : Bool := match impl_PartitionsOf.f 150 (n : Int) with
  | some L => spec_PartitionsOf.f 150 (n : Int) == some L && laws_eqIntSS.f 150 L L == some true && (match laws_markIntSS.f 150 L 1 with
    | some b => decide (0 ≤ b.1) && laws_heldIntSS.f 150 b.2 1 == some b.1
    | none => false)
  | none => false

set_option maxHeartbeats 8000000 in
theorem part_all : (List.range 10).all partB = true := by decide +kernel

theorem FnExactPartitionsOf (a0 : Int) (hw : (Lit.int .i64 a0).wf = true) : ∃ k, laws_FnExactPartitionsOf.ok k a0 := by
  by_cases hr : 0 ≤ a0 ∧ a0 ≤ 9
  · obtain ⟨n, rfl⟩ := Int.eq_ofNat_of_zero_le hr.1
    have h := List.all_eq_true.mp part_all n (List.mem_range.mpr (by omega))
    unfold partB at h
    cases e : impl_PartitionsOf.f 150 (n : Int) with
    | none => rw [e] at h; cases h
    | some L =>
      rw [e] at h
      simp only [Bool.and_eq_true, beq_iff_eq] at h
      obtain ⟨⟨h1, h2⟩, h3⟩ := h
      cases e2 : laws_markIntSS.f 150 L 1 with
      | none => rw [e2] at h3; cases h3
      | some b =>
        rw [e2] at h3
        simp only [Bool.and_eq_true, beq_iff_eq, decide_eq_true_eq] at h3
        exact ⟨150, ⟨⟨L, b.2, b.1, h1, e, h2, e2, h3.1, h3.2⟩⟩⟩
  · have hs : spec_l1In.f a0 0 9 = some false := by
      unfold spec_l1In.f
      by_cases h0 : a0 ≥ 0
      · rw [if_pos h0, decide_eq_false (by omega)]
      · rw [if_neg h0]
    have hi : impl_within.f a0 0 9 = some false := by
      unfold impl_within.f
      by_cases h0 : 0 ≤ a0
      · rw [if_pos h0, decide_eq_false (by omega)]
      · rw [if_neg h0]
    refine ⟨10, ⟨⟨[], [], 1, ?_, ?_, ?_, ?_, by omega, ?_⟩⟩⟩
    · rw [spec_PartitionsOf.f, hs]; rfl
    · rw [impl_PartitionsOf.f, hi]; rfl
    · rfl
    · rfl
    · rfl

end Go.Proofs.Ytcnpdiiecopccaa.Pure
