/- A text of this session's own program (wip/myprint.py): functions that the law FnExactParseNumber reaches, as plain Lean functions, each with the proof that the call does just that. No condition beyond those that each statement bears. -/
import Derived.Test.YtcegeleoicjciaaDoorQFnExactParseNumberx0
import Derived.Test.YtcegeleoicjciaaDoorQFnExactParseNumberx1
namespace Go.Proofs.YtcegeleoicjciaaDoor.QFnExactParseNumber
open Go.Proofs.YtcegeleoicjciaaDoor.Short Go.RowKit Go.Proofs.YtcegeleoicjciaaDoorW.PrintWords Go.Proofs.YtcegeleoicjciaaDoorW.PrintLast Go.Proofs.YtcegeleoicjciaaDoorW.PrintMore
attribute [local go_sem] max2_int min2_int max_two min_two max_three min_three max_four min_four   -- for this text's walks alone
set_option linter.unusedVariables false
set_option linter.unusedSimpArgs false

/-! ### impl_readInt: function 61 -/
def impl_readInt.f (a0 : ByteArray) (a1 a2 : Int) : Option (Int × Bool) := if a0.size ≤ 281474976710656 then (match Lib.atoiAll a0.data.toList with
  | .ok v => (impl_FormatInt.f v).bind fun t => (if t.toList = a0.toList then ((impl_within.f v a1 a2).bind fun u => (if u = true then (some (v, true)) else (some (0, false)))) else (some (0, false)))
  | _ => some (0, false)) else none
set_option maxHeartbeats 8000000 in
set_option maxRecDepth 100000 in
theorem impl_readInt.calls (a0 : ByteArray) (a1 a2 : Int) (r1 : Int) (r2 : Bool) (w : World) (ht : Tabs w) (h : impl_readInt.f a0 a1 a2 = some (r1, r2)) :
    Calls Tryd.prog 61 #[.string a0, .int .i64 a1, .int .i64 a2] w fun e w' => e = .returned (.tuple #[.int .i64 r1, .bool r2]) ∧ Below w.heap.size w w' := by
  unfold impl_readInt.f at h
  have HT := Aside0.mk ht
  have hsyn := Aside0.mk ht.err.1
  have hran := Aside0.mk ht.err.2
  clear ht
  by_cases hs : a0.size ≤ 281474976710656
  · rw [if_pos hs] at h
    have HS := Aside0.mk hs
    clear hs
    rcases ha : Lib.atoiAll a0.data.toList with v | _ | _
    · rw [ha] at h
      dsimp only at h
      obtain ⟨t, f1, h⟩ := Option.bind_eq_some_iff.mp h
      have HA := Aside0.mk ha
      have F1 := Aside0.mk f1
      clear ha f1
      by_cases c1 : t.toList = a0.toList
      · rw [if_pos c1] at h
        have c1b0 : (t.toList == a0.toList) = true := beq_iff_eq.mpr c1
        have c1b1 : (t.toList != a0.toList) = false := bne_eq_false_iff_eq.mpr c1
        obtain ⟨u, f2, h⟩ := Option.bind_eq_some_iff.mp h
        have F2 := Aside0.mk f2
        clear f2 c1
        cases u with
        | true =>
          rw [if_pos rfl] at h
          simp only [Option.some.injEq, Prod.mk.injEq] at h
          obtain ⟨rfl, rfl⟩ := h
          go_enter Tryd.func61, Tryd.ntmps61
          go_wp2_with fail
          refine (Tryd.strconv_Atoi_ok a0 (Nat.le_trans HS.out (by decide)) _ HA.out _).mono ?_
          rintro e w1 ⟨rfl, hw1⟩
          have B1 : Aside0 (Below w.heap.size w w1) := ⟨by rcases hw1 with rfl | ⟨t_, rfl⟩; exact Below.refl _ _; exact Lib.bytesWorld_below _ _ _⟩
          clear hw1
          go_wp2_with fail
          refine (impl_FormatInt.calls _ t _ (HT.out.below B1.out) F1.out).mono ?_
          rintro e w2 ⟨rfl, b2⟩
          have B2 := Aside0.mk (below_then B1.out B1.out.size b2)
          clear b2
          go_wp2_with fail
          refine (impl_within.calls _ a1 a2 true _ F2.out).mono ?_
          rintro e w3 ⟨rfl, ⟨nd, rfl⟩⟩
          go_wp2_with fail
          go_ret2
          exact ⟨rfl, pw_below_drewN B2.out _⟩
        | false =>
          rw [if_neg (by decide)] at h
          simp only [Option.some.injEq, Prod.mk.injEq] at h
          obtain ⟨rfl, rfl⟩ := h
          go_enter Tryd.func61, Tryd.ntmps61
          go_wp2_with fail
          refine (Tryd.strconv_Atoi_ok a0 (Nat.le_trans HS.out (by decide)) _ HA.out _).mono ?_
          rintro e w1 ⟨rfl, hw1⟩
          have B1 : Aside0 (Below w.heap.size w w1) := ⟨by rcases hw1 with rfl | ⟨t_, rfl⟩; exact Below.refl _ _; exact Lib.bytesWorld_below _ _ _⟩
          clear hw1
          go_wp2_with fail
          refine (impl_FormatInt.calls _ t _ (HT.out.below B1.out) F1.out).mono ?_
          rintro e w2 ⟨rfl, b2⟩
          have B2 := Aside0.mk (below_then B1.out B1.out.size b2)
          clear b2
          go_wp2_with fail
          refine (impl_within.calls _ a1 a2 false _ F2.out).mono ?_
          rintro e w3 ⟨rfl, ⟨nd, rfl⟩⟩
          go_wp2_with fail
          go_ret2
          exact ⟨rfl, pw_below_drewN B2.out _⟩
      · rw [if_neg c1] at h
        simp only [Option.some.injEq, Prod.mk.injEq] at h
        obtain ⟨rfl, rfl⟩ := h
        have c1b0 : (t.toList == a0.toList) = false := beq_eq_false_iff_ne.mpr c1
        have c1b1 : (t.toList != a0.toList) = true := bne_iff_ne.mpr c1
        clear c1
        go_enter Tryd.func61, Tryd.ntmps61
        go_wp2_with fail
        refine (Tryd.strconv_Atoi_ok a0 (Nat.le_trans HS.out (by decide)) _ HA.out _).mono ?_
        rintro e w1 ⟨rfl, hw1⟩
        have B1 : Aside0 (Below w.heap.size w w1) := ⟨by rcases hw1 with rfl | ⟨t_, rfl⟩; exact Below.refl _ _; exact Lib.bytesWorld_below _ _ _⟩
        clear hw1
        go_wp2_with fail
        refine (impl_FormatInt.calls _ t _ (HT.out.below B1.out) F1.out).mono ?_
        rintro e w2 ⟨rfl, b2⟩
        have B2 := Aside0.mk (below_then B1.out B1.out.size b2)
        clear b2
        go_wp2_with fail
        go_ret2
        exact ⟨rfl, B2.out⟩
    · rw [ha] at h
      simp only [Option.some.injEq, Prod.mk.injEq] at h
      obtain ⟨rfl, rfl⟩ := h
      obtain ⟨tp, p, hv⟩ := hsyn.out
      have HA := Aside0.mk ha
      have HV := Aside0.mk hv
      clear ha hv
      go_enter Tryd.func61, Tryd.ntmps61
      go_wp2_with fail
      refine (Tryd.strconv_Atoi_syntax_var a0 HS.out HA.out tp p _ HV.out).mono ?_
      rintro e w1 ⟨N_, rfl, _, _, hb⟩
      go_wp2_with fail
      go_ret2
      exact ⟨rfl, hb⟩
    · rw [ha] at h
      simp only [Option.some.injEq, Prod.mk.injEq] at h
      obtain ⟨rfl, rfl⟩ := h
      obtain ⟨tp, p, hv⟩ := hran.out
      have HA := Aside0.mk ha
      have HV := Aside0.mk hv
      clear ha hv
      go_enter Tryd.func61, Tryd.ntmps61
      go_wp2_with fail
      refine (Tryd.strconv_Atoi_range_var a0 HS.out HA.out tp p _ HV.out).mono ?_
      rintro e w1 ⟨N_, rfl, _, _, hb⟩
      go_wp2_with fail
      go_ret2
      exact ⟨rfl, hb⟩
  · rw [if_neg hs] at h
    cases h

/-! ### impl_ParseNumber: function 32 -/
def impl_ParseNumber.f (a0 : ByteArray) : Option (Int × Bool) := (impl_readInt.f a0 0 999999).bind fun bt112 => (some (bt112.1, bt112.2))
set_option maxHeartbeats 8000000 in
set_option maxRecDepth 100000 in
theorem impl_ParseNumber.calls (a0 : ByteArray) (r1 : Int) (r2 : Bool) (w : World) (ht : Tabs w) (h : impl_ParseNumber.f a0 = some (r1, r2)) :
    Calls Tryd.prog 32 #[.string a0] w fun e w' => e = .returned (.tuple #[.int .i64 r1, .bool r2]) ∧ Below w.heap.size w w' := by
  have HT := Aside0.mk ht
  clear ht
  have HB := Aside0.mk (Below.refl w.heap.size w)
  have H : ((impl_readInt.f a0 0 999999).bind fun bt112 => (some (bt112.1, bt112.2))) = some (r1, r2) := h
  clear h
  replace H := Option.bind_eq_some_iff.mp H
  obtain ⟨⟨t112, t113⟩, A20, H⟩ := H
  replace H : (some (t112, t113)) = some (r1, r2) := H
  have A2 := Aside0.mk A20
  clear A20
  simp only [Option.some.injEq, Prod.mk.injEq] at H
  obtain ⟨rfl, rfl⟩ := H
  go_enter Tryd.func32, Tryd.ntmps32
  go_wp2_with (first | ((with_reducible refine gate_callee (f := 61) rfl ?_); refine goesL_ (some 5) rfl rfl Tryd.func61 (by kernel_rfl) rfl #[.string a0, .int .i64 0, .int .i64 999999] rfl (by (try simp only [List.map_toArray, List.map_cons, List.map_nil]); first | done | rfl | (simp only [List.length_drop, List.length_take]; rfl)) ?_; (with_reducible refine (impl_readInt.calls a0 0 999999 t112 t113 _ (tnow HT.out) A2.out).mono ?_); rintro e w3 ⟨rfl, hb⟩; refine ⟨_, rfl, ?_⟩; have n0_ := Aside0.mk (below_step bnow hb); clear HB; have HB := n0_; clear n0_; (try clear hb); (try clear hb2); (try clear hk); (try clear hi)))
  go_ret2
  exact ⟨by first | rfl | (simp [errW_none, errW_some] <;> rfl) | (simp [*, errW_none, errW_some] <;> rfl), by repeat (first | (with_reducible first | exact HB.out | apply below_alloc | apply pw_below_drewN | apply below_drew1) | exact HB.out)⟩

/-! ### laws_FnExactParseNumber: function 8 -/
def laws_FnExactParseNumber.f (k : Nat) (a0 : ByteArray) : Option (Bool) := if (a0.size : Int) > 1048576 then (some true) else ((spec_ParseNumber.f k a0).bind fun bt114 => ((impl_ParseNumber.f a0).bind fun bt116 => (if bt116.1 = bt114.1 then (if (bt116.2 != bt114.2) = true then (some false) else (some true)) else (some false))))
theorem laws_FnExactParseNumber.mono : ∀ a0 k, LeO (laws_FnExactParseNumber.f k a0) (laws_FnExactParseNumber.f (k + 1) a0) := by
  intro a0 k
  unfold laws_FnExactParseNumber.f
  repeat' first
      | (with_reducible exact spec_ParseNumber.mono _ _)
      | (with_reducible exact LeO.refl _)
      | (with_reducible exact LeO.none _)
      | (with_reducible refine LeO.ite ?_ ?_)
      | (with_reducible refine LeO.bind ?_ (fun _ => ?_))
      | exact spec_ParseNumber.mono _ _
      | exact LeO.none _
      | refine LeO.ite ?_ ?_
      | refine LeO.bind ?_ (fun _ => ?_)
set_option maxHeartbeats 8000000 in
set_option maxRecDepth 100000 in
theorem laws_FnExactParseNumber.calls (k : Nat) (a0 : ByteArray) (w : World) (ht : Tabs w) (h : laws_FnExactParseNumber.f k a0 = some true) :
    Calls Tryd.prog 8 #[.string a0] w fun e w' => e = .returned (.bool true) ∧ Below w.heap.size w w' := by
  have HT := Aside0.mk ht
  clear ht
  have HB := Aside0.mk (Below.refl w.heap.size w)
  have H : (if (a0.size : Int) > 1048576 then (some true) else ((spec_ParseNumber.f k a0).bind fun bt114 => ((impl_ParseNumber.f a0).bind fun bt116 => (if bt116.1 = bt114.1 then (if (bt116.2 != bt114.2) = true then (some false) else (some true)) else (some false))))) = some true := h
  clear h
  by_cases c2 : (a0.size : Int) > 1048576
  · rw [if_pos c2] at H
    have c2b0 : decide (1048576 < (a0.size : Int)) = true := decide_eq_true c2
    have c2b1 : decide (1048576 < a0.size) = true := decide_eq_true (by omega)
    clear c2
    clear H
    go_enter Tryd.func8, Tryd.ntmps8
    go_wp2
    go_ret
    exact ⟨by first | rfl | (simp [errW_none, errW_some] <;> rfl) | (simp [*, errW_none, errW_some] <;> rfl), by repeat (first | (with_reducible first | exact HB.out | apply below_alloc | apply pw_below_drewN | apply below_drew1) | exact HB.out)⟩
  · rw [if_neg c2] at H
    have c2b0 : decide (1048576 < (a0.size : Int)) = false := decide_eq_false c2
    have c2b1 : decide (1048576 < a0.size) = false := decide_eq_false (by omega)
    clear c2
    replace H := Option.bind_eq_some_iff.mp H
    obtain ⟨⟨t114, t115⟩, A30, H⟩ := H
    replace H : ((impl_ParseNumber.f a0).bind fun bt116 => (if bt116.1 = t114 then (if (bt116.2 != t115) = true then (some false) else (some true)) else (some false))) = some true := H
    have A3 := Aside0.mk A30
    clear A30
    replace H := Option.bind_eq_some_iff.mp H
    obtain ⟨⟨t116, t117⟩, A40, H⟩ := H
    replace H : (if t116 = t114 then (if (t117 != t115) = true then (some false) else (some true)) else (some false)) = some true := H
    have A4 := Aside0.mk A40
    clear A40
    by_cases c5 : t116 = t114
    · rw [if_pos c5] at H
      have c5b0 : (t116 == t114) = true := beq_iff_eq.mpr c5
      have c5b1 : (t116 != t114) = false := bne_eq_false_iff_eq.mpr c5
      clear c5
      by_cases c6 : (t117 != t115) = true
      · rw [if_pos c6] at H
        have c6b0 : (t117 != t115) = true := c6
        (try (have c6b1 : decide (t117 = t115) = false := by simpa using c6))
        (try (have c6b2 : (t117 == t115) = false := by simpa using c6))
        (try (have c6b3 : ¬ (t117 = t115) := by simpa using c6))
        clear c6
        exact absurd (Option.some.inj H) (by simp)
      · rw [if_neg c6] at H
        have c6b0 : (t117 != t115) = false := by simpa using c6
        (try (have c6b1 : decide (t117 = t115) = true := by simpa using c6))
        (try (have c6b2 : (t117 == t115) = true := by simpa using c6))
        clear c6
        clear H
        go_enter Tryd.func8, Tryd.ntmps8
        go_wp2_with (first | ((with_reducible refine gate_callee (f := 31) rfl ?_); refine goesL_ (some 12) rfl rfl Tryd.func31 (by kernel_rfl) rfl #[.string a0] rfl (by (try simp only [List.map_toArray, List.map_cons, List.map_nil]); first | done | rfl | (simp only [List.length_drop, List.length_take]; rfl)) ?_; (with_reducible refine (spec_ParseNumber.calls k a0 t114 t115 _ A3.out).mono ?_); rintro e w7 ⟨rfl, hb⟩; refine ⟨_, rfl, ?_⟩; have n0_ := Aside0.mk (below_step bnow hb); clear HB; have HB := n0_; clear n0_; (try clear hb); (try clear hb2); (try clear hk); (try clear hi)) | ((with_reducible refine gate_callee (f := 32) rfl ?_); refine goesL_ (some 17) rfl rfl Tryd.func32 (by kernel_rfl) rfl #[.string a0] rfl (by (try simp only [List.map_toArray, List.map_cons, List.map_nil]); first | done | rfl | (simp only [List.length_drop, List.length_take]; rfl)) ?_; (with_reducible refine (impl_ParseNumber.calls a0 t116 t117 _ (tnow HT.out) A4.out).mono ?_); rintro e w8 ⟨rfl, hb⟩; refine ⟨_, rfl, ?_⟩; have n0_ := Aside0.mk (below_step bnow hb); clear HB; have HB := n0_; clear n0_; (try clear hb); (try clear hb2); (try clear hk); (try clear hi)))
        go_ret
        exact ⟨by first | rfl | (simp [errW_none, errW_some] <;> rfl) | (simp [*, errW_none, errW_some] <;> rfl), by repeat (first | (with_reducible first | exact HB.out | apply below_alloc | apply pw_below_drewN | apply below_drew1) | exact HB.out)⟩
    · rw [if_neg c5] at H
      have c5b0 : (t116 == t114) = false := beq_eq_false_iff_ne.mpr c5
      have c5b1 : (t116 != t114) = true := bne_iff_ne.mpr c5
      exact absurd (Option.some.inj H) (by simp)

end Go.Proofs.YtcegeleoicjciaaDoor.QFnExactParseNumber
