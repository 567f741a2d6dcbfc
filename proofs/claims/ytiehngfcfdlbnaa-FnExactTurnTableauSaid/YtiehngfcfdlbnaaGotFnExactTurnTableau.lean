/- The statement FnExactTurnTableauSaid: for every input the law FnExactTurnTableau returns true and its arguments read as before. No condition. The row, over the contract of the law's function and this session's pure proof. -/
import Derived.Test.YtiehngfcfdlbnaaRows
import Derived.Test.YtiehngfcfdlbnaaVFnExactTurnTableau
import Derived.Test.YtiehngfcfdlbnaaPureFnExactTurnTableau
import Derived.WalkKit
import Derived.ProofKit
import Derived.OpenShut
import Derived.ShutString
import Derived.ChangeOld
import Derived.Below
import Derived.SizedLaws
import Derived.Lib.SmallJoins
import Derived.Deep.Matrix
import Derived.SliceStrings
namespace Go.Proofs.Ytiehngfcfdlbnaa.fnExactTurnTableau
open Go.ChangeShapes Go.WideShapes Go.ChangeAt Go.RowKit Go.Joins Go.Deep
open Go.Proofs.YtiehngfcfdlbnaaW.PrintWords Go.Proofs.YtiehngfcfdlbnaaW.PrintLast Go.Proofs.YtiehngfcfdlbnaaW.PrintMore
open Go.ChangeMaps (open_string shut_string)
set_option linter.unusedVariables false
set_option linter.unusedSimpArgs false
theorem own : ownKnob Try.prog.godebug = none := by kernel_rfl
theorem laidOut : laidOutB Try.prog = true := by kernel_rfl
def IsRow (k : IntKind) (w : World) (a : Option Addr) (len cap : Nat) (zs : List Int) : Prop :=
  (a = none ∧ len = 0 ∧ cap = 0 ∧ zs = []) ∨
  ∃ x, a = some x ∧ len ≤ cap ∧ cap ≤ maxLen ∧ zs.length = cap ∧ (∀ i, i < zs.length → w.cell? (x.add i) = some (.int k (zs.getD i 0))) ∧ ∀ n ∈ zs, (Lit.int k n).wf = true
theorem row_of {H : Type} {enc : TypeId × Value → H} {W : World} {n : Nat} {v : Value} {y : DataW H × List MemPlace} (hf : DataW.trod enc Try.prog W 0 (fun _ => true) true n 22 [v] = some y) :
    ∃ (l : List Int) (a : Option Addr) (cap : Nat), v = .slice a l.length cap ∧ Kd.C (Kd.int .i64) W a l.length l ∧ l.length ≤ maxLen ∧ (∀ x ∈ l, (Lit.int .i64 x).wf = true) ∧ l.length ≤ cap := by
  have hrow : ∃ a len cap zs, v = .slice a len cap ∧ IsRow .i64 W a len cap zs := by
    rcases open_ints Try.underlying22 Try.underlying3 (by kernel_rfl) hf with ⟨hcs, _⟩ | ⟨x, l, c, zs, hcs, _, hl, hm, hz, _, hcell, hwz⟩
    · exact ⟨none, 0, 0, [], by simpa using hcs, .inl ⟨rfl, rfl, rfl, rfl⟩⟩
    · exact ⟨some x, l, c, zs, by simpa using hcs, .inr ⟨_, rfl, hl, hm, by simpa using hz, hcell, hwz⟩⟩
  obtain ⟨a, len, cap, zs, rfl, w⟩ := hrow
  obtain ⟨l, rfl, hr, hm, hw, hc⟩ := ReadsInt.ofRowC w
  exact ⟨l, a, cap, rfl, Kd.C_of_reads (d := (0 : Int)) (h1 := fun _ => rfl) hr, hm, hw, hc⟩
theorem rows_of {H : Type} {enc : TypeId × Value → H} {W : World} {n : Nat} {v : Value} {y : DataW H × List MemPlace} (hf : DataW.trod enc Try.prog W 0 (fun _ => true) true n 23 [v] = some y) :
    ∃ (l : List (List Int)) (a : Option Addr) (cap : Nat), v = .slice a l.length cap ∧ Kd.C (Kd.slice 3 (Kd.int .i64)) W a l.length l ∧ l.length ≤ maxLen ∧ (∀ x ∈ l, x.length ≤ maxLen ∧ ∀ n ∈ x, (Lit.int .i64 n).wf = true) ∧ l.length ≤ cap := by
  rcases open_int_rows Try.underlying23 Try.underlying22 Try.underlying3 (by kernel_rfl) (by kernel_rfl) hf with ⟨hcs, _⟩ | ⟨a, len, cap, A, L, C, Z, hcs, _, hl, hm, _, hx⟩
  · exact ⟨[], none, 0, by simpa using hcs, Kd.C_nil _ _, by simp, by simp, Nat.le_refl _⟩
  · have each : ∀ r, r < len → ∃ l : List Int, L r = l.length ∧ Kd.C (Kd.int .i64) W (A r) l.length l ∧ l.length ≤ maxLen ∧ (∀ x ∈ l, (Lit.int .i64 x).wf = true) ∧ l.length ≤ C r := by
      intro r hr
      obtain ⟨h1, h2, h3, h4, h5, h6, h7⟩ := hx r (by omega)
      have row : IsRow .i64 W (A r) (L r) (C r) (Z r) := by
        cases hA : A r with
        | none =>
          have := h6 hA
          exact .inl ⟨rfl, by omega, this, List.eq_nil_of_length_eq_zero (by omega)⟩
        | some a' =>
          obtain ⟨_, h8⟩ := h7 a' hA
          exact .inr ⟨a', rfl, h2, h3, h4, fun i hi => h8 i (by omega), h5⟩
      obtain ⟨l, e, hr', hm', hw', hc'⟩ := ReadsInt.ofRowC row
      exact ⟨l, e, Kd.C_of_reads (d := (0 : Int)) (h1 := fun _ => rfl) hr', hm', hw', hc'⟩
    obtain ⟨Y, hY⟩ := choose_lt each
    have hlen : ((List.range len).map Y).length = len := by simp
    refine ⟨(List.range len).map Y, some a, cap, ?_, ?_, ?_, ?_, ?_⟩
    · rw [hlen]
      simpa using hcs
    · rw [hlen]
      refine ⟨hlen, by unfold maxLen at hm; omega, fun _ => ⟨a, rfl, fun j p hj => ?_⟩⟩
      have hjl : j < len := by
        have := (List.getElem?_eq_some_iff.1 hj).1
        rwa [hlen] at this
      have hp : p = Y j := by
        rw [List.getElem?_map, List.getElem?_range hjl] at hj
        simpa using hj.symm
      subst hp
      obtain ⟨e1, e2, e3, e4, e5⟩ := hY j hjl
      obtain ⟨h1, _⟩ := hx j (by omega)
      refine ⟨[.slice (A j) (Y j).length (C j)], rfl, ⟨A j, C j, rfl, e5, e2⟩, fun i u hu => ?_⟩
      cases i with
      | zero =>
        obtain rfl : Value.slice (A j) (Y j).length (C j) = u := by simpa using hu
        rw [← e1]
        have e : j * (Kd.slice 3 (Kd.int .i64)).sz + 0 = j := by simp [Kd.slice]
        rw [e]
        exact h1
      | succ i => simp at hu
    · rw [hlen]; unfold maxLen at hm ⊢; omega
    · intro x hx'
      obtain ⟨r, hr, rfl⟩ := List.mem_map.1 hx'
      obtain ⟨_, _, e3, e4, _⟩ := hY r (List.mem_range.1 hr)
      exact ⟨e3, e4⟩
    · rw [hlen]; exact hl
set_option maxRecDepth 100000 in
theorem lifted (os : Os) (started : os.Started) (H : Type) (enc : TypeId × Value → H) :
    ReturnsInHanded {} Try.checked os 10 .any (Rows.fnExactTurnTableauSpec.pre6 enc Try.prog Try.f10 Rows.fnExactTurnTableauRow.domain false) (Rows.fnExactTurnTableauSpec.post enc Try.prog Try.f10 false true false false) := by
  refine returnsInHanded_of_change_sized (C := Try.checked) own started (by kernel_rfl) Try.func10
    (ChangeSpec.witness6 (enc := enc) (C := Try.checked) false ⟨#[], #[.agg #[.slice none 0 0, .slice none 0 0]], []⟩ 8 (by kernel_rfl) (by kernel_rfl) (by kernel_rfl) (by kernel_rfl)) ?_
  intro W base args ds gs before hval0 hW hcnd hsz0 _
  have hsz : (DataW.weightsEach Try.prog (Try.f10.params.toList ++ Rows.fnExactTurnTableauSpec.plain.varTypes Try.prog) (ds ++ gs)).all (· ≤ reachBytes) = true := hsz0
  have hval : ∀ (j : Nat) t v, Try.f10.params[j]? = some t → args[j]? = some v → Value.okWide Try.prog W .any base t v := hval0
  have hW' := hW
  obtain ⟨p, q, hA0, hV, rfl, hfz, hnd⟩ := hW
  have hA : DataW.TrodAll enc Try.prog W 0 (fun _ => true) true Try.f10.params.toList args.toList ds p := hA0
  rw [Try.params10] at hA hval hsz
  obtain ⟨v0, vs0, d0, ds0, p0, q0, hargs, rfl, rfl, h0, r0⟩ := trodAll_cons hA
  obtain ⟨rfl, rfl, rfl⟩ := trodAll_nil r0
  obtain rfl : args = #[v0] := by cases args; simp_all
  obtain ⟨rfl, rfl⟩ := trodVars_none hV
  have k0 := h0
  have lt0 : ∀ x ∈ p0, x.block < W.heap.size := by obtain ⟨m, hm⟩ := k0; exact DataW.trod_lt m _ _ _ hm
  obtain ⟨c0_0, c0_1, y0_0, y0_1, f0, rfl, _, _, g0_0, g0_1⟩ := open_agg2 Try.underlying25 (by kernel_rfl) (by kernel_rfl) (hval 0 25 v0 rfl rfl) h0
  obtain ⟨l0_0, a0_0, cap0_0, rfl, hr0_0, hm0_0, hw0_0, hc0_0⟩ := row_of g0_0
  obtain ⟨l0_1, a0_1, cap0_1, rfl, hr0_1, hm0_1, hw0_1, hc0_1⟩ := rows_of g0_1
  obtain ⟨k, hk⟩ := Pure.FnExactTurnTableau l0_0 l0_1 hm0_0 hw0_0 hm0_1 hw0_1
  clear hA0 hval0 hsz0 hsz
  refine (QFnExactTurnTableau.laws_FnExactTurnTableau.calls k _ _ l0_0 _ _ l0_1 W hr0_0 hc0_0 hr0_1 hc0_1 hk).mono fun e W' ⟨he, bel⟩ => ?_
  subst he
  exact ⟨_, rfl, _, _, _, [], _, [], hW', trodAll_mk1 (shut_bool Try.underlying4 _), (trodAll_cons_mk (Below.trod laidOut (by kernel_rfl) (of_decide_eq_true (by kernel_rfl)) k0 bel lt0) trodAll_mk0), rfl, bel.frame _, fun h => by cases h⟩
theorem over : Rows.fnExactTurnTableauRow.holds Try.pinned (OpenSpec.ofChange Rows.fnExactTurnTableauSpec) :=
  OpenClaim.holds_of_wide 10 Try.f10 rfl rfl rfl rfl rfl rfl rfl ⟨rfl, rfl, rfl, rfl, rfl⟩ rfl rfl rfl rfl rfl (by kernel_rfl) Try.func10 (by kernel_rfl)
    (of_decide_eq_true (by kernel_rfl)) (by unfold Func.isWrapper; first | (rw [if_pos (by decide +kernel)]; kernel_rfl) | (rw [if_neg (by decide +kernel)]; exact ⟨rfl, rfl⟩))
    (fun os started H enc _ => lifted os started H enc)
theorem proved : Rows.FnExactTurnTableauSaid := over
end Go.Proofs.Ytiehngfcfdlbnaa.fnExactTurnTableau
namespace Go.Proofs.Ytiehngfcfdlbnaa
/-- The row, under a short name, for the claim. -/
theorem fnExactTurnTableau_holds : Rows.FnExactTurnTableauSaid := fnExactTurnTableau.proved
end Go.Proofs.Ytiehngfcfdlbnaa
