/- A text of this session's own program (wip/myprint.py): functions that the law FnShapes reaches, as plain Lean functions, each with the proof that the call does just that. No condition beyond those that each statement bears. -/
import Derived.Test.YtkbomfpebhjaoaaGreatDoorQFnShapesx0
import Derived.Test.YtkbomfpebhjaoaaGreatDoorQFnShapesx1
import Derived.Test.YtkbomfpebhjaoaaGreatDoorQFnShapesx2
import Derived.Test.YtkbomfpebhjaoaaGreatDoorQFnShapesx3
import Derived.Test.YtkbomfpebhjaoaaGreatDoorQFnShapesx7
namespace Go.Proofs.YtkbomfpebhjaoaaGreatDoor.QFnShapes
open Go.Proofs.YtkbomfpebhjaoaaGreatDoor.Short Go.RowKit Go.Proofs.YtkbomfpebhjaoaaGreatDoorW.PrintWords Go.Proofs.YtkbomfpebhjaoaaGreatDoorW.PrintLast Go.Proofs.YtkbomfpebhjaoaaGreatDoorW.PrintMore
attribute [local go_sem] max2_int min2_int max_two min_two max_three min_three max_four min_four   -- for this text's walks alone
set_option linter.unusedVariables false
set_option linter.unusedSimpArgs false

/-! ### spec_l1Turned: function 36 -/
def spec_l1Turned.f (s0_0 : List Int) (s0_1 : Int) (s0_2 : Int) (a1 : ByteArray) (l2 : List ByteArray) : Option (ByteArray × Int × Int) := (spec_l1Below.f s0_0 s0_1 s0_2 (wrap64 ((a1.size : Int) + 1))).bind fun bt419 => ((spec_l1Below.f s0_0 bt419.2.1 bt419.2.2 6).bind fun bt422 => (if bt422.1 = 0 then (if 0 ≤ bt419.1 then (if bt419.1 ≤ (a1.size : Int) then ((spec_l1Pick.f s0_0 bt422.2.1 bt422.2.2 l2).bind fun bt425 => (if (a1.extract 0 (bt419.1 : Int).toNat).size + bt425.1.size ≤ 9223372036854775807 then (if ((a1.extract 0 (bt419.1 : Int).toNat) ++ bt425.1).size + (a1.extract (bt419.1 : Int).toNat a1.size).size ≤ 9223372036854775807 then (some (((a1.extract 0 (bt419.1 : Int).toNat) ++ bt425.1) ++ (a1.extract (bt419.1 : Int).toNat a1.size), bt425.2.1, bt425.2.2)) else (none)) else (none))) else (none)) else (none)) else (if bt422.1 = 1 then (if 0 ≤ bt419.1 then (if bt419.1 ≤ (a1.size : Int) then (some (a1.extract 0 (bt419.1 : Int).toNat, bt422.2.1, bt422.2.2)) else (none)) else (none)) else (some (a1, bt422.2.1, bt422.2.2)))))
def spec_l1Turned.T4 : Bool × List (List Nat × List Nat) := (true, [([], []), ([], []), ([0, 1], [0, 1]), ([], []), ([], []), ([3, 4], [3, 4]), ([2, 5], [2, 5]), ([], []), ([], []), ([7, 8], [7, 8]), ([6, 9], [6, 9]), ([10, 5, 0, 1, 2, 3, 4, 5, 6, 7, 8, 9, 10], [10])])
def spec_l1Turned.B4 : List Nat := [0, 0, 3, 0, 0, 24, 63, 0, 0, 384, 1023, 2047]
theorem spec_l1Turned.tab4 : rtab .any (opsOf Tryz.f36 4) = spec_l1Turned.T4 := by kernel_rfl
theorem spec_l1Turned.bits4 : waitsOk spec_l1Turned.T4.2 spec_l1Turned.B4 = true := by kernel_rfl
set_option maxHeartbeats 8000000 in
set_option maxRecDepth 100000 in
theorem spec_l1Turned.calls (g : Nat) (s0_0 : List Int) (s0_1 : Int) (s0_2 : Int) (a1 : ByteArray) (A2 : Option Addr) (c2 : Nat) (l2 : List ByteArray) (r1 : ByteArray) (r2 : Int) (r3 : Int) (w0 w : World) (hI : IsS60 w0 w g s0_0 s0_1 s0_2) (hB : Below w0.heap.size w0 w) (hr2 : Kd.C Kd.string w A2 l2.length l2) (hc2 : l2.length ≤ c2) (hf2 : ∀ ad, A2 = some ad → 0 < l2.length → ad.block ≠ g) (h : spec_l1Turned.f s0_0 s0_1 s0_2 a1 l2 = some (r1, r2, r3)) :
  Calls Tryz.prog 36 #[.pointer (some ⟨g, 0, none⟩), .string a1, .slice A2 l2.length c2] w fun e w' => e = .returned (.string r1) ∧ IsS60 w0 w' g s0_0 r2 r3 ∧ Below w0.heap.size w0 w' ∧ KeepBut w w' g none := by
 have HR2 := Aside0.mk hr2
 have HC2 := Aside0.mk hc2
 clear hr2 hc2
 have HI0 := Aside0.mk hI
 have HK := Aside0.mk (KeepBut.refl w g none)
 have HL := Aside0.mk hB.size
 clear hI
 have HW0 := Aside0.mk hB.size
 have HB := Aside0.mk hB
 clear hB
 have H : ((spec_l1Below.f s0_0 s0_1 s0_2 (wrap64 ((a1.size : Int) + 1))).bind fun bt419 => ((spec_l1Below.f s0_0 bt419.2.1 bt419.2.2 6).bind fun bt422 => (if bt422.1 = 0 then (if 0 ≤ bt419.1 then (if bt419.1 ≤ (a1.size : Int) then ((spec_l1Pick.f s0_0 bt422.2.1 bt422.2.2 l2).bind fun bt425 => (if (a1.extract 0 (bt419.1 : Int).toNat).size + bt425.1.size ≤ 9223372036854775807 then (if ((a1.extract 0 (bt419.1 : Int).toNat) ++ bt425.1).size + (a1.extract (bt419.1 : Int).toNat a1.size).size ≤ 9223372036854775807 then (some (((a1.extract 0 (bt419.1 : Int).toNat) ++ bt425.1) ++ (a1.extract (bt419.1 : Int).toNat a1.size), bt425.2.1, bt425.2.2)) else (none)) else (none))) else (none)) else (none)) else (if bt422.1 = 1 then (if 0 ≤ bt419.1 then (if bt419.1 ≤ (a1.size : Int) then (some (a1.extract 0 (bt419.1 : Int).toNat, bt422.2.1, bt422.2.2)) else (none)) else (none)) else (some (a1, bt422.2.1, bt422.2.2)))))) = some (r1, r2, r3) := h
 clear h
 replace H := Option.bind_eq_some_iff.mp H
 obtain ⟨⟨t419, t420, t421⟩, A40, H⟩ := H
 replace H : ((spec_l1Below.f s0_0 t420 t421 6).bind fun bt422 => (if bt422.1 = 0 then (if 0 ≤ t419 then (if t419 ≤ (a1.size : Int) then ((spec_l1Pick.f s0_0 bt422.2.1 bt422.2.2 l2).bind fun bt425 => (if (a1.extract 0 (t419 : Int).toNat).size + bt425.1.size ≤ 9223372036854775807 then (if ((a1.extract 0 (t419 : Int).toNat) ++ bt425.1).size + (a1.extract (t419 : Int).toNat a1.size).size ≤ 9223372036854775807 then (some (((a1.extract 0 (t419 : Int).toNat) ++ bt425.1) ++ (a1.extract (t419 : Int).toNat a1.size), bt425.2.1, bt425.2.2)) else (none)) else (none))) else (none)) else (none)) else (if bt422.1 = 1 then (if 0 ≤ t419 then (if t419 ≤ (a1.size : Int) then (some (a1.extract 0 (t419 : Int).toNat, bt422.2.1, bt422.2.2)) else (none)) else (none)) else (some (a1, bt422.2.1, bt422.2.2))))) = some (r1, r2, r3) := H
 have A4 := Aside0.mk A40
 clear A40
 replace H := Option.bind_eq_some_iff.mp H
 obtain ⟨⟨t422, t423, t424⟩, A50, H⟩ := H
 replace H : (if t422 = 0 then (if 0 ≤ t419 then (if t419 ≤ (a1.size : Int) then ((spec_l1Pick.f s0_0 t423 t424 l2).bind fun bt425 => (if (a1.extract 0 (t419 : Int).toNat).size + bt425.1.size ≤ 9223372036854775807 then (if ((a1.extract 0 (t419 : Int).toNat) ++ bt425.1).size + (a1.extract (t419 : Int).toNat a1.size).size ≤ 9223372036854775807 then (some (((a1.extract 0 (t419 : Int).toNat) ++ bt425.1) ++ (a1.extract (t419 : Int).toNat a1.size), bt425.2.1, bt425.2.2)) else (none)) else (none))) else (none)) else (none)) else (if t422 = 1 then (if 0 ≤ t419 then (if t419 ≤ (a1.size : Int) then (some (a1.extract 0 (t419 : Int).toNat, t423, t424)) else (none)) else (none)) else (some (a1, t423, t424)))) = some (r1, r2, r3) := H
 have A5 := Aside0.mk A50
 clear A50
 by_cases c6 : t422 = 0
 ·rw [if_pos c6] at H
  have c6b0 : (t422 == 0) = true := beq_iff_eq.mpr c6
  have c6b1 : (t422 != 0) = false := bne_eq_false_iff_eq.mpr c6
  clear c6
  by_cases c7 : 0 ≤ t419
  ·rw [if_pos c7] at H
   have c7b0 := eq_true c7
   have c7b1 : decide (0 ≤ t419) = true := decide_eq_true c7
   clear c7
   by_cases c8 : t419 ≤ (a1.size : Int)
   ·rw [if_pos c8] at H
    have c8b0 := eq_true c8
    have c8b1 : decide (t419 ≤ (a1.size : Int)) = true := decide_eq_true c8
    clear c8
    replace H := Option.bind_eq_some_iff.mp H
    obtain ⟨⟨t425, t426, t427⟩, A90, H⟩ := H
    replace H : (if (a1.extract 0 (t419 : Int).toNat).size + t425.size ≤ 9223372036854775807 then (if ((a1.extract 0 (t419 : Int).toNat) ++ t425).size + (a1.extract (t419 : Int).toNat a1.size).size ≤ 9223372036854775807 then (some (((a1.extract 0 (t419 : Int).toNat) ++ t425) ++ (a1.extract (t419 : Int).toNat a1.size), t426, t427)) else (none)) else (none)) = some (r1, r2, r3) := H
    have A9 := Aside0.mk A90
    clear A90
    by_cases c10 : (a1.extract 0 (t419 : Int).toNat).size + t425.size ≤ 9223372036854775807
    ·rw [if_pos c10] at H
     have c10b0 := eq_true c10
     have c10b1 : decide ((a1.extract 0 (t419 : Int).toNat).size + t425.size ≤ 9223372036854775807) = true := decide_eq_true c10
     try have c10b2 : (9223372036854775807 < (a1.extract 0 (t419 : Int).toNat).size + t425.size) = False := eq_false (Nat.not_lt.2 c10)
     try have c10b4 : (9223372036854775807 < t419.toNat + t425.size) = False := eq_false (Nat.not_lt.2 (by have h_ := c10; have g_ := of_decide_eq_true c8b1; simp only [ByteArray.size_extract, ByteArray.size_append] at h_; omega))
     have c11b0 := eq_true (of_decide_eq_true asm : 0 ≤ t419)
     have c12b0 := eq_true (of_decide_eq_true asm : t419 ≤ (a1.size : Int))
     by_cases c13 : ((a1.extract 0 (t419 : Int).toNat) ++ t425).size + (a1.extract (t419 : Int).toNat a1.size).size ≤ 9223372036854775807
     ·rw [if_pos c13] at H
      have c13b0 := eq_true c13
      have c13b1 : decide (((a1.extract 0 (t419 : Int).toNat) ++ t425).size + (a1.extract (t419 : Int).toNat a1.size).size ≤ 9223372036854775807) = true := decide_eq_true c13
      try have c13b2 : (9223372036854775807 < ((a1.extract 0 (t419 : Int).toNat) ++ t425).size + (a1.extract (t419 : Int).toNat a1.size).size) = False := eq_false (Nat.not_lt.2 c13)
      try have c13b4 : (9223372036854775807 < t419.toNat + t425.size + (a1.size - t419.toNat)) = False := eq_false (Nat.not_lt.2 (by have h_ := c13; have g_ := of_decide_eq_true c8b1; simp only [ByteArray.size_extract, ByteArray.size_append] at h_; omega))
      simp only [Option.some.injEq, Prod.mk.injEq] at H
      obtain ⟨rfl, rfl, rfl⟩ := H
      go_enter Tryz.func36, Tryz.ntmps36
      try go_wp2_with (first | ((with_reducible refine gate_callee (f := 54) rfl ?_); refine goesL_ (some 12) rfl rfl Tryz.func54 (by kernel_rfl) rfl #[.pointer (some ⟨g, 0, none⟩), .int .i64 (wrap64 ((a1.size : Int) + 1))] rfl lm ?_; (with_reducible refine (spec_l1Below.calls g s0_0 s0_1 s0_2 (wrap64 ((a1.size : Int) + 1)) t419 t420 t421 w0 _ (inow HI0.out) (bi HB.out) A4.out).mono ?_); rintro e w14 ⟨rfl, hi, hb, hk⟩; refine ⟨_, rfl, ?_⟩; replace HK := Aside0.mk (KeepBut.trans (know HK.out) hk (.inl rfl)); replace HB := Aside0.mk (hb); replace HI0 := Aside0.mk (hi); (try clear hb); (try clear hb2); (try clear hk); (try clear hi)) | ((with_reducible refine gate_callee (f := 54) rfl ?_); refine goesL_ (some 14) rfl rfl Tryz.func54 (by kernel_rfl) rfl #[.pointer (some ⟨g, 0, none⟩), .int .i64 6] rfl lm ?_; (with_reducible refine (spec_l1Below.calls g s0_0 t420 t421 6 t422 t423 t424 w0 _ (inow HI0.out) (bi HB.out) A5.out).mono ?_); rintro e w15 ⟨rfl, hi, hb, hk⟩; refine ⟨_, rfl, ?_⟩; replace HK := Aside0.mk (KeepBut.trans (know HK.out) hk (.inl rfl)); replace HB := Aside0.mk (hb); replace HI0 := Aside0.mk (hi); (try clear hb); (try clear hb2); (try clear hk); (try clear hi)))
      have n0_ := Aside0.mk (IsS60.drew HI0.out)
      have n1_ := Aside0.mk (keep_drew HK.out)
      have n2_ := Aside0.mk (below_drew1 HB.out)
      clear HI0
      clear HK
      clear HB
      have HI0 := n0_
      have HK := n1_
      have HB := n2_
      clear n0_ n1_ n2_
      refine start_ (n := 12) (S := fun w' => True) (ds := []) (tf 12 0) (by kernel_rfl) rfl rfl trivial (fun hHeld => ?_); refine with_tabW spec_l1Turned.tab4 spec_l1Turned.bits4 (fun HT_ HW_ => ?_)
      generalize w15.drew = w16 at HI0 HK HB hHeld ⊢
      refine pure1 0 17 (tf 12 1) (ay HT_.out) ?_
      refine pure1 1 18 (tf 12 2) (ay HT_.out) ?_
      refine pure1 2 19 (tf 12 3) (ay HT_.out) ?_
      refine pure1 3 20 (tf 12 4) (ay HT_.out) ?_
      refine pure1 4 21 (tf 12 5) (ay HT_.out) ?_
      refine pure1 7 24 #[true, true, true, true, true, false, false, true, false, false, false, false] (ay HT_.out) ?_
      refine pure1 8 25 #[true, true, true, true, true, false, false, true, true, false, false, false] (ay HT_.out) ?_
      refine pure1 9 26 #[true, true, true, true, true, false, false, true, true, true, false, false] (ay HT_.out) ?_
      refine one_ (i := 5) (N := some 22) #[true, true, true, true, true, true, false, true, true, true, false, false] rfl rfl (one_of HT_.out (by kernel_rfl)) (by decide) (fun K hK => ?_)
      refine goes_ Tryz.func59 (by kernel_rfl) rfl #[.pointer (some ⟨g, 0, none⟩), .slice A2 l2.length c2] (by rfl) rfl rfl lm ?_
      with_reducible refine (spec_l1Pick.calls g s0_0 t423 t424 _ _ l2 t425 t426 t427 w0 _ ?side1 ?side2 ?side3 ?side4 ?side5 A9.out).mono ?_
      (case side1 => exact inow HI0.out)
      (case side2 => exact bi HB.out)
      (case side3 => exact Kd.C_keep (⟨#[]⟩ : ByteArray) HR2.out (know HK.out) hf2)
      (case side4 => exact HC2.out)
      (case side5 => exact hf2)
      rintro e w17 ⟨rfl, hi, hb, hk⟩
      refine ⟨_, rfl, ?_⟩
      have n0_ := Aside0.mk (KeepBut.trans (know HK.out) hk (.inl rfl))
      have n1_ := Aside0.mk (hb)
      have n2_ := Aside0.mk (hi)
      clear HK
      clear HB
      clear HI0
      have HK := n0_
      have HB := n1_
      have HI0 := n2_
      clear n0_ n1_ n2_
      (try clear hb)
      (try clear hb2)
      (try clear hk)
      (try clear hi)
      refine hK.out _ _ trivial (fun hHeld => ?_)
      clear hK K
      refine norm1 22 ?_
      refine pure1 6 23 (tf 12 10) (ay HT_.out) ?_
      refine pure1 10 27 (tf 12 11) (ay HT_.out) ?_
      refine pure1 11 6 (tf 12 12) (ay HT_.out) ?_
      refine done_ (done_of HT_.out (by kernel_rfl)) ?_
      try go_wp2
      go_ret
      exact ⟨by first | rfl | (simp [errW_none, errW_some] <;> rfl) | (simp [*, errW_none, errW_some] <;> rfl), inow HI0.out, bi HB.out, know HK.out⟩
     ·rw [if_neg c13] at H
      exact absurd H (by simp)
    ·rw [if_neg c10] at H
     exact absurd H (by simp)
   ·rw [if_neg c8] at H
    exact absurd H (by simp)
  ·rw [if_neg c7] at H
   exact absurd H (by simp)
 ·rw [if_neg c6] at H
  have c6b0 : (t422 == 0) = false := beq_eq_false_iff_ne.mpr c6
  have c6b1 : (t422 != 0) = true := bne_iff_ne.mpr c6
  by_cases c18 : t422 = 1
  ·rw [if_pos c18] at H
   have c18b0 : (t422 == 1) = true := beq_iff_eq.mpr c18
   have c18b1 : (t422 != 1) = false := bne_eq_false_iff_eq.mpr c18
   clear c18
   by_cases c19 : 0 ≤ t419
   ·rw [if_pos c19] at H
    have c19b0 := eq_true c19
    have c19b1 : decide (0 ≤ t419) = true := decide_eq_true c19
    clear c19
    by_cases c20 : t419 ≤ (a1.size : Int)
    ·rw [if_pos c20] at H
     have c20b0 := eq_true c20
     have c20b1 : decide (t419 ≤ (a1.size : Int)) = true := decide_eq_true c20
     clear c20
     simp only [Option.some.injEq, Prod.mk.injEq] at H
     obtain ⟨rfl, rfl, rfl⟩ := H
     go_enter Tryz.func36, Tryz.ntmps36
     go_wp2_with (first | ((with_reducible refine gate_callee (f := 54) rfl ?_); refine goesL_ (some 12) rfl rfl Tryz.func54 (by kernel_rfl) rfl #[.pointer (some ⟨g, 0, none⟩), .int .i64 (wrap64 ((a1.size : Int) + 1))] rfl lm ?_; (with_reducible refine (spec_l1Below.calls g s0_0 s0_1 s0_2 (wrap64 ((a1.size : Int) + 1)) t419 t420 t421 w0 _ (inow HI0.out) (bi HB.out) A4.out).mono ?_); rintro e w21 ⟨rfl, hi, hb, hk⟩; refine ⟨_, rfl, ?_⟩; replace HK := Aside0.mk (KeepBut.trans (know HK.out) hk (.inl rfl)); replace HB := Aside0.mk (hb); replace HI0 := Aside0.mk (hi); (try clear hb); (try clear hb2); (try clear hk); (try clear hi)) | ((with_reducible refine gate_callee (f := 54) rfl ?_); refine goesL_ (some 14) rfl rfl Tryz.func54 (by kernel_rfl) rfl #[.pointer (some ⟨g, 0, none⟩), .int .i64 6] rfl lm ?_; (with_reducible refine (spec_l1Below.calls g s0_0 t420 t421 6 t422 t423 t424 w0 _ (inow HI0.out) (bi HB.out) A5.out).mono ?_); rintro e w22 ⟨rfl, hi, hb, hk⟩; refine ⟨_, rfl, ?_⟩; replace HK := Aside0.mk (KeepBut.trans (know HK.out) hk (.inl rfl)); replace HB := Aside0.mk (hb); replace HI0 := Aside0.mk (hi); (try clear hb); (try clear hb2); (try clear hk); (try clear hi)))
     go_ret
     exact ⟨by first | rfl | (simp [errW_none, errW_some] <;> rfl) | (simp [*, errW_none, errW_some] <;> rfl), inow HI0.out, bi HB.out, know HK.out⟩
    ·rw [if_neg c20] at H
     exact absurd H (by simp)
   ·rw [if_neg c19] at H
    exact absurd H (by simp)
  ·rw [if_neg c18] at H
   have c18b0 : (t422 == 1) = false := beq_eq_false_iff_ne.mpr c18
   have c18b1 : (t422 != 1) = true := bne_iff_ne.mpr c18
   simp only [Option.some.injEq, Prod.mk.injEq] at H
   obtain ⟨rfl, rfl, rfl⟩ := H
   go_enter Tryz.func36, Tryz.ntmps36
   go_wp2_with (first | ((with_reducible refine gate_callee (f := 54) rfl ?_); refine goesL_ (some 12) rfl rfl Tryz.func54 (by kernel_rfl) rfl #[.pointer (some ⟨g, 0, none⟩), .int .i64 (wrap64 ((a1.size : Int) + 1))] rfl lm ?_; (with_reducible refine (spec_l1Below.calls g s0_0 s0_1 s0_2 (wrap64 ((a1.size : Int) + 1)) t419 t420 t421 w0 _ (inow HI0.out) (bi HB.out) A4.out).mono ?_); rintro e w23 ⟨rfl, hi, hb, hk⟩; refine ⟨_, rfl, ?_⟩; replace HK := Aside0.mk (KeepBut.trans (know HK.out) hk (.inl rfl)); replace HB := Aside0.mk (hb); replace HI0 := Aside0.mk (hi); (try clear hb); (try clear hb2); (try clear hk); (try clear hi)) | ((with_reducible refine gate_callee (f := 54) rfl ?_); refine goesL_ (some 14) rfl rfl Tryz.func54 (by kernel_rfl) rfl #[.pointer (some ⟨g, 0, none⟩), .int .i64 6] rfl lm ?_; (with_reducible refine (spec_l1Below.calls g s0_0 t420 t421 6 t422 t423 t424 w0 _ (inow HI0.out) (bi HB.out) A5.out).mono ?_); rintro e w24 ⟨rfl, hi, hb, hk⟩; refine ⟨_, rfl, ?_⟩; replace HK := Aside0.mk (KeepBut.trans (know HK.out) hk (.inl rfl)); replace HB := Aside0.mk (hb); replace HI0 := Aside0.mk (hi); (try clear hb); (try clear hb2); (try clear hk); (try clear hi)))
   go_ret
   exact ⟨by first | rfl | (simp [errW_none, errW_some] <;> rfl) | (simp [*, errW_none, errW_some] <;> rfl), inow HI0.out, bi HB.out, know HK.out⟩

/-! ### spec_DrawParseShape: function 11 -/
def spec_DrawParseShape.f (k : Nat) (l0 : List Int) : Option (ByteArray) := (spec_l1New.f k l0).bind fun bt428 => ((spec_l4Draw.f k bt428.1 bt428.2.1 bt428.2.2 8).bind fun bt432 => ((spec_ShapeText.f k bt432.1 bt432.2.1).bind fun t440 => ((spec_l1Turned.f bt428.1 bt432.2.2.1 bt432.2.2.2 t440 (([(⟨#[47]⟩ : ByteArray), (⟨#[44]⟩ : ByteArray), (⟨#[49]⟩ : ByteArray), (⟨#[45]⟩ : ByteArray), (⟨#[47, 45]⟩ : ByteArray)] : List ByteArray))).bind fun bt444 => (some bt444.1))))
theorem spec_DrawParseShape.mono : ∀ a0 k, LeO (spec_DrawParseShape.f k a0) (spec_DrawParseShape.f (k + 1) a0) := by
 intro a0 k
 unfold spec_DrawParseShape.f
 repeat' first
   | (with_reducible exact spec_ShapeText.mono _ _ _)
   | (with_reducible exact spec_l1New.mono _ _)
   | (with_reducible exact spec_l4Draw.mono _ _ _ _ _)
   | (with_reducible exact LeO.refl _)
   | (with_reducible exact LeO.none _)
   | (with_reducible refine LeO.ite ?_ ?_)
   | (with_reducible refine LeO.bind ?_ (fun _ => ?_))
   | exact spec_ShapeText.mono _ _ _
   | exact spec_l1New.mono _ _
   | exact spec_l4Draw.mono _ _ _ _ _
   | exact LeO.none _
   | refine LeO.ite ?_ ?_
   | refine LeO.bind ?_ (fun _ => ?_)
set_option maxHeartbeats 8000000 in
set_option maxRecDepth 100000 in
theorem spec_DrawParseShape.calls (k : Nat) (A0 : Option Addr) (c0 : Nat) (l0 : List Int) (r : ByteArray) (w : World) (hr0 : Kd.C (Kd.int .u8) w A0 l0.length l0) (hc0 : l0.length ≤ c0) (h : spec_DrawParseShape.f k l0 = some r) :
  Calls Tryz.prog 11 #[.slice A0 l0.length c0] w fun e w' => e = .returned (.string r) ∧ Below w.heap.size w w' := by
 have HR0 := Aside0.mk hr0
 have HC0 := Aside0.mk hc0
 clear hr0 hc0
 have HB := Aside0.mk (Below.refl w.heap.size w)
 have H : ((spec_l1New.f k l0).bind fun bt428 => ((spec_l4Draw.f k bt428.1 bt428.2.1 bt428.2.2 8).bind fun bt432 => ((spec_ShapeText.f k bt432.1 bt432.2.1).bind fun t440 => ((spec_l1Turned.f bt428.1 bt432.2.2.1 bt432.2.2.2 t440 (([(⟨#[47]⟩ : ByteArray), (⟨#[44]⟩ : ByteArray), (⟨#[49]⟩ : ByteArray), (⟨#[45]⟩ : ByteArray), (⟨#[47, 45]⟩ : ByteArray)] : List ByteArray))).bind fun bt444 => (some bt444.1))))) = some r := h
 clear h
 replace H := Option.bind_eq_some_iff.mp H
 obtain ⟨⟨t428, t429, t430⟩, A20, H⟩ := H
 replace H : ((spec_l4Draw.f k t428 t429 t430 8).bind fun bt432 => ((spec_ShapeText.f k bt432.1 bt432.2.1).bind fun t440 => ((spec_l1Turned.f t428 bt432.2.2.1 bt432.2.2.2 t440 (([(⟨#[47]⟩ : ByteArray), (⟨#[44]⟩ : ByteArray), (⟨#[49]⟩ : ByteArray), (⟨#[45]⟩ : ByteArray), (⟨#[47, 45]⟩ : ByteArray)] : List ByteArray))).bind fun bt444 => (some bt444.1)))) = some r := H
 have A2 := Aside0.mk A20
 clear A20
 replace H := Option.bind_eq_some_iff.mp H
 obtain ⟨⟨t432, t435, t438, t439⟩, A30, H⟩ := H
 replace H : ((spec_ShapeText.f k t432 t435).bind fun t440 => ((spec_l1Turned.f t428 t438 t439 t440 (([(⟨#[47]⟩ : ByteArray), (⟨#[44]⟩ : ByteArray), (⟨#[49]⟩ : ByteArray), (⟨#[45]⟩ : ByteArray), (⟨#[47, 45]⟩ : ByteArray)] : List ByteArray))).bind fun bt444 => (some bt444.1))) = some r := H
 have A3 := Aside0.mk A30
 clear A30
 replace H := Option.bind_eq_some_iff.mp H
 obtain ⟨t440, A40, H⟩ := H
 replace H : ((spec_l1Turned.f t428 t438 t439 t440 (([(⟨#[47]⟩ : ByteArray), (⟨#[44]⟩ : ByteArray), (⟨#[49]⟩ : ByteArray), (⟨#[45]⟩ : ByteArray), (⟨#[47, 45]⟩ : ByteArray)] : List ByteArray))).bind fun bt444 => (some bt444.1)) = some r := H
 have A4 := Aside0.mk A40
 clear A40
 obtain ⟨y441, hy441⟩ : ∃ y_ : List ByteArray, y_ = (([(⟨#[47]⟩ : ByteArray), (⟨#[44]⟩ : ByteArray), (⟨#[49]⟩ : ByteArray), (⟨#[45]⟩ : ByteArray), (⟨#[47, 45]⟩ : ByteArray)] : List ByteArray)) := ⟨_, rfl⟩
 replace H : ((spec_l1Turned.f t428 t438 t439 t440 y441).bind fun bt444 => (some bt444.1)) = some r := by first | (rw [hy441]; with_reducible exact H) | (have H2_ := (Option.bind_some _ _).symm.trans H; rw [hy441]; with_reducible exact H2_) | (have H2_ := (Option.bind_some _ _).symm.trans H; with_reducible exact H2_) | with_reducible exact H | (rw [hy441]; exact H) | exact H
 have Ny441 := Aside0.mk hy441
 clear hy441
 replace H := Option.bind_eq_some_iff.mp H
 obtain ⟨⟨t444, t445, t446⟩, A50, H⟩ := H
 replace H : (some t444) = some r := H
 have A5 := Aside0.mk A50
 clear A50
 obtain rfl := Option.some.inj H
 go_enter Tryz.func11, Tryz.ntmps11
 go_wp2_with (first | ((with_reducible refine gate_callee (f := 31) rfl ?_); refine goesL_ (some 5) rfl rfl Tryz.func31 (by kernel_rfl) rfl #[.slice A0 l0.length c0] rfl lm ?_; (with_reducible refine (spec_l1New.calls k _ _ l0 t428 t429 t430 w _ (bn HB.out) HR0.out HC0.out A2.out).mono ?_); rintro e w6 ⟨g431, rfl, hi, hb, hb2⟩; refine ⟨_, rfl, ?_⟩; replace HB := Aside0.mk (hb); have HI431 := Aside0.mk (hi); (try clear hb); (try clear hb2); (try clear hk); (try clear hi)) | ((with_reducible refine gate_callee (f := 37) rfl ?_); refine goesL_ (some 8) rfl rfl Tryz.func37 (by kernel_rfl) rfl #[.pointer (some ⟨g431, 0, none⟩), .int .i64 8] rfl lm ?_; (with_reducible refine (spec_l4Draw.calls k g431 t428 t429 t430 8 t432 t435 t438 t439 w _ (inow HI431.out) (bi HB.out) A3.out).mono ?_); rintro e w7 ⟨v433, v436, rfl, ho0, ho1, hi, hb, hk⟩; refine ⟨_, rfl, ?_⟩; have HO434 := Aside0.mk (Kd.R_lower ho0 (below_size (bi HB.out))); have HO437 := Aside0.mk (Kd.R_lower ho1 (below_size (bi HB.out))); replace HB := Aside0.mk (hb); replace HI431 := Aside0.mk (hi); (try clear hb); (try clear hb2); (try clear hk); (try clear hi); (try clear ho0); (try clear ho1); obtain ⟨Ao8, co8, eo8⟩ := Kd.R_slice HO434.out; subst eo8; obtain ⟨Ao9, co9, eo9⟩ := Kd.R_slice HO437.out; subst eo9) | ((with_reducible refine gate_callee (f := 29) rfl ?_); refine goesL_ (some 9) rfl rfl Tryz.func29 (by kernel_rfl) rfl #[.agg #[.slice Ao8 t432.length co8, .slice Ao9 t435.length co9]] rfl lm ?_; (with_reducible refine (spec_ShapeText.calls k _ _ t432 _ _ t435 t440 _ ?side1 ?side2 ?side3 ?side4 A4.out).mono ?_); (case side1 => repeat (first | exact (Kd.R_reads' HO434.out).2.2 | (with_reducible refine Kd.C_alloc ?_ _) | (with_reducible refine Kd.C_drewN ?_ _) | (with_reducible refine Kd.C_drew ?_))); (case side2 => exact (Kd.R_reads' HO434.out).2.1); (case side3 => repeat (first | exact (Kd.R_reads' HO437.out).2.2 | (with_reducible refine Kd.C_alloc ?_ _) | (with_reducible refine Kd.C_drewN ?_ _) | (with_reducible refine Kd.C_drew ?_))); (case side4 => exact (Kd.R_reads' HO437.out).2.1); rintro e w10 ⟨rfl, hb⟩; refine ⟨_, rfl, ?_⟩; replace HO434 := Aside0.mk (Kd.R_below (rk HO434.out) hb); replace HO437 := Aside0.mk (Kd.R_below (rk HO437.out) hb); replace HI431 := Aside0.mk (IsS60.below (inow HI431.out) hb); replace HB := Aside0.mk (below_step (bi HB.out) hb); (try clear hb); (try clear hb2); (try clear hk); (try clear hi)) | ((with_reducible refine gate_dst (N := 10) rfl ?_); refine Kd.R_lit Kd.string _ 9 ?hg (N := 10) ?hd (xs := ([(⟨#[47]⟩ : ByteArray), (⟨#[44]⟩ : ByteArray), (⟨#[49]⟩ : ByteArray), (⟨#[45]⟩ : ByteArray), (⟨#[47, 45]⟩ : ByteArray)] : List ByteArray)) (inner := [.string (⟨#[47]⟩ : ByteArray), .string (⟨#[44]⟩ : ByteArray), .string (⟨#[49]⟩ : ByteArray), .string (⟨#[45]⟩ : ByteArray), .string (⟨#[47, 45]⟩ : ByteArray)]) (ok := fun _ => True) (okp := fun _ => True) ?hr ?hp (fun _ hk => hk) trivial (Below.refl _ _) (Nat.le_refl _) (by simp) ?_; (case hd => rfl); (case hg => rfl); (case hr => first | (go_simp; done) | (go_simp; rfl)); (case hp => exact (Reps.one (show Kd.M Kd.string _ _ _ (⟨#[47]⟩ : ByteArray) [.string (⟨#[47]⟩ : ByteArray)] from rfl) (Reps.one (show Kd.M Kd.string _ _ _ (⟨#[44]⟩ : ByteArray) [.string (⟨#[44]⟩ : ByteArray)] from rfl) (Reps.one (show Kd.M Kd.string _ _ _ (⟨#[49]⟩ : ByteArray) [.string (⟨#[49]⟩ : ByteArray)] from rfl) (Reps.one (show Kd.M Kd.string _ _ _ (⟨#[45]⟩ : ByteArray) [.string (⟨#[45]⟩ : ByteArray)] from rfl) (Reps.one (show Kd.M Kd.string _ _ _ (⟨#[47, 45]⟩ : ByteArray) [.string (⟨#[47, 45]⟩ : ByteArray)] from rfl) (Reps.none _ _))))))); intro v442 w11 ho12 hb hg_ hnew_; clear hg_ hnew_; (first | rw [← Ny441.out] at ho12 | (simp only [Int.reduceToNat] at ho12; rw [← Ny441.out] at ho12)); replace HO434 := Aside0.mk (Kd.R_below (rk HO434.out) hb); replace HO437 := Aside0.mk (Kd.R_below (rk HO437.out) hb); have HO443 := Aside0.mk (Kd.R_lower ho12 (below_size (bi HB.out))); replace HI431 := Aside0.mk (IsS60.below (inow HI431.out) hb); replace HB := Aside0.mk (below_step (bi HB.out) hb); clear hb ho12; obtain ⟨Ao13, co13, eo13⟩ := Kd.R_slice HO443.out; subst eo13) | ((with_reducible refine gate_callee (f := 36) rfl ?_); refine goesL_ (some 11) rfl rfl Tryz.func36 (by kernel_rfl) rfl #[.pointer (some ⟨g431, 0, none⟩), .string t440, .slice Ao13 y441.length co13] rfl lm ?_; (with_reducible refine (spec_l1Turned.calls g431 t428 t438 t439 t440 _ _ y441 t444 t445 t446 w _ ?side1 ?side2 ?side3 ?side4 ?side5 A5.out).mono ?_); (case side1 => exact inow HI431.out); (case side2 => exact bi HB.out); (case side3 => repeat (first | exact (Kd.R_reads' HO443.out).2.2 | (with_reducible refine Kd.C_alloc ?_ _) | (with_reducible refine Kd.C_drewN ?_ _) | (with_reducible refine Kd.C_drew ?_))); (case side4 => exact (Kd.R_reads' HO443.out).2.1); (case side5 => exact far_slice (IsS60.own_ne HI431.out HO443.out (by decide))); rintro e w14 ⟨rfl, hi, hb, hk⟩; refine ⟨_, rfl, ?_⟩; replace HO434 := Aside0.mk (Kd.R_mono (Kd.R_keep (IsS60.apart (show IsS60 w _ g431 t428 t438 t439 from inow HI431.out) (rk HO434.out) (by decide)) hk (fun _ h => h.2)) (fun _ h => h.1)); replace HO437 := Aside0.mk (Kd.R_mono (Kd.R_keep (IsS60.apart (show IsS60 w _ g431 t428 t438 t439 from inow HI431.out) (rk HO437.out) (by decide)) hk (fun _ h => h.2)) (fun _ h => h.1)); replace HO443 := Aside0.mk (Kd.R_mono (Kd.R_keep (IsS60.apart (show IsS60 w _ g431 t428 t438 t439 from inow HI431.out) (rk HO443.out) (by decide)) hk (fun _ h => h.2)) (fun _ h => h.1)); replace HB := Aside0.mk (hb); replace HI431 := Aside0.mk (hi); (try clear hb); (try clear hb2); (try clear hk); (try clear hi)))
 go_ret
 exact ⟨by first | rfl | (simp [errW_none, errW_some] <;> rfl) | (simp [*, errW_none, errW_some] <;> rfl), bi HB.out⟩

/-! ### strconv_Itoa: function 90 -/
def strconv_Itoa.f (a0 : Int) : Option (ByteArray) := if -9223372036854775808 ≤ a0 then (if a0 ≤ 9223372036854775807 then some ⟨(Lib.itoa a0).toArray⟩ else none) else none
theorem strconv_Itoa.calls (a0 : Int) (r : ByteArray) (w : World) (ht : Tabs w) (h : strconv_Itoa.f a0 = some r) :
  Calls Tryz.prog 90 #[.int .i64 a0] w fun e w' => e = .returned (.string r) ∧ Below w.heap.size w w' := by
 unfold strconv_Itoa.f at h
 by_cases h0 : -9223372036854775808 ≤ a0
 ·rw [if_pos h0] at h
  by_cases h1 : a0 ≤ 9223372036854775807
  ·rw [if_pos h1] at h
   obtain rfl := Option.some.inj h
   refine (Tryz.strconv_Itoa a0 h0 h1 w ht.pow).mono ?_
   rintro e w' ⟨rfl, k, os, rfl⟩
   exact ⟨rfl, Go.Lib.below_grow _ w (Nat.le_refl _) k os⟩
  ·rw [if_neg h1] at h
   cases h
 ·rw [if_neg h0] at h
  cases h

/-! ### impl_FormatInt: function 78 -/
def impl_FormatInt.f (a0 : Int) : Option (ByteArray) := (strconv_Itoa.f a0).bind fun t447 => (some t447)
set_option maxHeartbeats 8000000 in
set_option maxRecDepth 100000 in
theorem impl_FormatInt.calls (a0 : Int) (r : ByteArray) (w : World) (ht : Tabs w) (h : impl_FormatInt.f a0 = some r) :
  Calls Tryz.prog 78 #[.int .i64 a0] w fun e w' => e = .returned (.string r) ∧ Below w.heap.size w w' := by
 have HT := Aside0.mk ht
 clear ht
 have HB := Aside0.mk (Below.refl w.heap.size w)
 have H : ((strconv_Itoa.f a0).bind fun t447 => (some t447)) = some r := h
 clear h
 replace H := Option.bind_eq_some_iff.mp H
 obtain ⟨t447, A20, H⟩ := H
 replace H : (some t447) = some r := H
 have A2 := Aside0.mk A20
 clear A20
 obtain rfl := Option.some.inj H
 go_enter Tryz.func78, Tryz.ntmps78
 go_wp2_with (first | ((with_reducible refine gate_callee (f := 90) rfl ?_); refine goesL_ (some 4) rfl rfl Tryz.func90 (by kernel_rfl) rfl #[.int .i64 a0] rfl lm ?_; (with_reducible refine (strconv_Itoa.calls a0 t447 _ (tnow HT.out) A2.out).mono ?_); rintro e w3 ⟨rfl, hb⟩; refine ⟨_, rfl, ?_⟩; replace HB := Aside0.mk (below_step bnow hb); (try clear hb); (try clear hb2); (try clear hk); (try clear hi)))
 go_ret
 exact ⟨by first | rfl | (simp [errW_none, errW_some] <;> rfl) | (simp [*, errW_none, errW_some] <;> rfl), bn HB.out⟩

/-! ### strings_Join: function 91 -/
def strings_Join.f (l0 : List ByteArray) (a1 : ByteArray) : Option (ByteArray) := if l0.length ≤ 140737488355328 then (if (Lib.join (l0.map (·.data.toList)) a1.data.toList).length ≤ 140737488355328 then some ⟨(Lib.join (l0.map (·.data.toList)) a1.data.toList).toArray⟩ else none) else none
theorem strings_Join.calls (A0 : Option Addr) (c0 : Nat) (l0 : List ByteArray) (a1 : ByteArray) (r : ByteArray) (w : World) (hr0 : Kd.C Kd.string w A0 l0.length l0) (hc0 : l0.length ≤ c0) (h : strings_Join.f l0 a1 = some r) :
  Calls Tryz.prog 91 #[.slice A0 l0.length c0, .string a1] w fun e w' => e = .returned (.string r) ∧ Below w.heap.size w w' := by
 unfold strings_Join.f at h
 by_cases h0 : l0.length ≤ 140737488355328
 ·rw [if_pos h0] at h
  by_cases h1 : (Lib.join (l0.map (·.data.toList)) a1.data.toList).length ≤ 140737488355328
  ·rw [if_pos h1] at h
   obtain rfl := Option.some.inj h
   rcases Nat.eq_zero_or_pos l0.length with hz | hp
   ·obtain rfl := List.eq_nil_of_length_eq_zero hz
    refine (Tryz.strings_Join_none _ c0 a1 w).mono ?_
    rintro e w' ⟨rfl, rfl⟩
    exact ⟨rfl, Below.refl _ _⟩
   ·obtain ⟨ad, rfl, hc⟩ := (Kd.reads_of_C (d := (⟨#[]⟩ : ByteArray)) hr0).2.2 hp
    obtain ⟨b, off, spot⟩ := ad
    have hspot : spot = none := by simpa [Addr.add] using World.cell?_spot (hc 0 hp)
    subst hspot
    have hcell : ∀ (j : Nat) x, l0[j]? = some x → w.cell? ⟨b, off + j, none⟩ = some (.string x) := fun j x hx => by
     have hj := (List.getElem?_eq_some_iff.1 hx).1
     have h2 := hc j hj
     rw [Go.WideShapes.add_plain] at h2
     rw [h2, List.getD_eq_getElem?_getD, hx]
     rfl
    have hb : b < w.heap.size := World.block_lt_of_cell? w _ (hcell 0 _ (List.getElem?_eq_getElem hp))
    exact (Tryz.strings_Join b off c0 l0 a1 w hcell hb h0 hc0 h1).mono fun e w' ⟨he, hw⟩ => ⟨he, hw⟩
  ·rw [if_neg h1] at h
   cases h
 ·rw [if_neg h0] at h
  cases h

/-! ### impl_Join: function 79 -/
def impl_Join.f (l0 : List ByteArray) (a1 : ByteArray) : Option (ByteArray) := (strings_Join.f l0 a1).bind fun t448 => (some t448)
set_option maxHeartbeats 8000000 in
set_option maxRecDepth 100000 in
theorem impl_Join.calls (A0 : Option Addr) (c0 : Nat) (l0 : List ByteArray) (a1 : ByteArray) (r : ByteArray) (w : World) (hr0 : Kd.C Kd.string w A0 l0.length l0) (hc0 : l0.length ≤ c0) (h : impl_Join.f l0 a1 = some r) :
  Calls Tryz.prog 79 #[.slice A0 l0.length c0, .string a1] w fun e w' => e = .returned (.string r) ∧ Below w.heap.size w w' := by
 have HR0 := Aside0.mk hr0
 have HC0 := Aside0.mk hc0
 clear hr0 hc0
 have HB := Aside0.mk (Below.refl w.heap.size w)
 have H : ((strings_Join.f l0 a1).bind fun t448 => (some t448)) = some r := h
 clear h
 replace H := Option.bind_eq_some_iff.mp H
 obtain ⟨t448, A30, H⟩ := H
 replace H : (some t448) = some r := H
 have A3 := Aside0.mk A30
 clear A30
 obtain rfl := Option.some.inj H
 go_enter Tryz.func79, Tryz.ntmps79
 go_wp2_with (first | ((with_reducible refine gate_callee (f := 91) rfl ?_); refine goesL_ (some 7) rfl rfl Tryz.func91 (by kernel_rfl) rfl #[.slice A0 l0.length c0, .string a1] rfl lm ?_; (with_reducible refine (strings_Join.calls _ _ l0 a1 t448 _ (cc HR0.out) HC0.out A3.out).mono ?_); rintro e w4 ⟨rfl, hb⟩; refine ⟨_, rfl, ?_⟩; replace HB := Aside0.mk (below_step bnow hb); (try clear hb); (try clear hb2); (try clear hk); (try clear hi)))
 go_ret
 exact ⟨by first | rfl | (simp [errW_none, errW_some] <;> rfl) | (simp [*, errW_none, errW_some] <;> rfl), bn HB.out⟩

/-! ### impl_joined: function 68 -/
def impl_joined.l0 : Nat → ByteArray → List ByteArray → List Int → Int → Int → Option (ByteArray)
 | 0, _, _, _, _, _ => none
 | k + 1, x1, x5, x9, x10, x11 => if x11 < x10 then (if 0 ≤ x11 then (if x11 < (x9.length : Int) then ((impl_FormatInt.f (rd x9 x11)).bind fun t453 => (if x5.length < 8796093022208 then (impl_joined.l0 k x1 (x5 ++ [t453]) x9 x10 (wrap64 (x11 + 1))) else (none))) else (none)) else (none)) else ((impl_Join.f x5 x1).bind fun t457 => (some t457))
def impl_joined.f (k : Nat) (l0 : List Int) (a1 : ByteArray) : Option (ByteArray) := impl_joined.l0 k a1 (([] : List ByteArray)) l0 (l0.length : Int) 0
theorem impl_joined.mono_l : ∀ k, (∀ y0 y1 y2 y3 y4, LeO (impl_joined.l0 k y0 y1 y2 y3 y4) (impl_joined.l0 (k + 1) y0 y1 y2 y3 y4))
 | 0 => fun _ _ _ _ _ r h => by simp [impl_joined.l0] at h
 | k + 1 => by
  have ih0 := impl_joined.mono_l k
  ·intro y0 y1 y2 y3 y4
   unfold impl_joined.l0
   repeat' first
   | (with_reducible exact ih0 _ _ _ _ _)
   | (with_reducible exact LeO.refl _)
   | (with_reducible exact LeO.none _)
   | (with_reducible refine LeO.ite ?_ ?_)
   | (with_reducible refine LeO.bind ?_ (fun _ => ?_))
   | exact ih0 _ _ _ _ _
   | exact LeO.none _
   | refine LeO.ite ?_ ?_
   | refine LeO.bind ?_ (fun _ => ?_)
theorem impl_joined.mono : ∀ a0 a1 k, LeO (impl_joined.f k a0 a1) (impl_joined.f (k + 1) a0 a1) := by
 intro a0 a1 k
 have ih0 := impl_joined.mono_l k
 unfold impl_joined.f
 repeat' first
   | (with_reducible exact ih0 _ _ _ _ _)
   | (with_reducible exact LeO.refl _)
   | (with_reducible exact LeO.none _)
   | (with_reducible refine LeO.ite ?_ ?_)
   | (with_reducible refine LeO.bind ?_ (fun _ => ?_))
   | exact ih0 _ _ _ _ _
   | exact LeO.none _
   | refine LeO.ite ?_ ?_
   | refine LeO.bind ?_ (fun _ => ?_)
set_option maxHeartbeats 8000000 in
set_option maxRecDepth 100000 in
theorem impl_joined.calls (k : Nat) (A0 : Option Addr) (c0 : Nat) (l0 : List Int) (a1 : ByteArray) (r : ByteArray) (w : World) (hr0 : Kd.C (Kd.int .i64) w A0 l0.length l0) (hc0 : l0.length ≤ c0) (ht : Tabs w) (h : impl_joined.f k l0 a1 = some r) :
  Calls Tryz.prog 68 #[.slice A0 l0.length c0, .string a1] w fun e w' => e = .returned (.string r) ∧ Below w.heap.size w w' := by
 have HT := Aside0.mk ht
 clear ht
 have HR0 := Aside0.mk hr0
 have HC0 := Aside0.mk hc0
 clear hr0 hc0
 have HB := Aside0.mk (Below.refl w.heap.size w)
 have H : (impl_joined.l0 k a1 (([] : List ByteArray)) l0 (l0.length : Int) 0) = some r := h
 clear h
 obtain ⟨y449, hy449⟩ : ∃ y_ : List ByteArray, y_ = (([] : List ByteArray)) := ⟨_, rfl⟩
 replace H : (impl_joined.l0 k a1 y449 l0 (l0.length : Int) 0) = some r := by first | (rw [hy449]; with_reducible exact H) | (have H2_ := (Option.bind_some _ _).symm.trans H; rw [hy449]; with_reducible exact H2_) | (have H2_ := (Option.bind_some _ _).symm.trans H; with_reducible exact H2_) | with_reducible exact H | (rw [hy449]; exact H) | exact H
 have Ny449 := Aside0.mk hy449
 clear hy449
 have H' := Aside0.mk H
 clear H
 go_enter Tryz.func68, Tryz.ntmps68
 go_wp2_with (first | ((with_reducible refine gate_dst (N := 8) rfl ?_); refine Kd.R_lit Kd.string _ 9 ?hg (N := 8) ?hd (xs := ([] : List ByteArray)) (inner := []) (ok := fun _ => True) (okp := fun _ => True) ?hr ?hp (fun _ hk => hk) trivial (Below.refl _ _) (Nat.le_refl _) (by simp) ?_; (case hd => rfl); (case hg => rfl); (case hr => first | (go_simp; done) | (go_simp; rfl)); (case hp => exact (Reps.none _ _)); intro v450 w3 ho4 hb hg_ hnew_; clear hg_ hnew_; (first | rw [← Ny449.out] at ho4 | (simp only [Int.reduceToNat] at ho4; rw [← Ny449.out] at ho4)); have HO451 := Aside0.mk (Kd.R_lower ho4 (below_size bnow)); replace HB := Aside0.mk (below_step bnow hb); clear hb ho4))
 go_loopg [5, 11] k (fun kq v5 v11 w' => ∃ (x5_1 : List ByteArray) (x11_1 : Int), v11 = .int .i64 x11_1 ∧ Aside0 (impl_joined.l0 kq a1 x5_1 l0 (l0.length : Int) x11_1 = some r) ∧ Aside0 (kq ≤ k) ∧ Aside0 (Kd.R Kd.string 9 w' w.heap.size (fun _ => True) v5 x5_1) ∧ Aside0 (Below w.heap.size w w'))
 case atStart => exact ⟨(y449), (0), (by first | rfl | (simp; done) | (simp [*]; done)), H', ⟨Nat.le_refl _⟩, ⟨rk HO451.out⟩, ⟨bn HB.out⟩⟩
 case round =>
  clear H'
  try clear p2
  obtain ⟨x5_1, x11_1, rfl, HA, HK1, HO_5, HB⟩ := hrel
  cases gk with
  | zero => exact absurd HA.out (by simp [impl_joined.l0])
  | succ k1 =>
   have H := HA.out
   clear HA
   simp only [impl_joined.l0] at H
   by_cases c5 : x11_1 < (l0.length : Int)
   ·rw [if_pos c5] at H
    have c5b0 : decide (x11_1 < (l0.length : Int)) = true := decide_eq_true c5
    clear c5
    by_cases c6 : 0 ≤ x11_1
    ·rw [if_pos c6] at H
     have c6b0 : decide (0 ≤ x11_1) = true := decide_eq_true c6
     clear c6
     by_cases c7 : x11_1 < (l0.length : Int)
     ·rw [if_pos c7] at H
      have c7b0 : decide (x11_1 < (l0.length : Int)) = true := decide_eq_true c7
      clear c7
      replace H := Option.bind_eq_some_iff.mp H
      obtain ⟨t453, A80, H⟩ := H
      replace H : (if x5_1.length < 8796093022208 then (impl_joined.l0 k1 a1 (x5_1 ++ [t453]) l0 (l0.length : Int) (wrap64 (x11_1 + 1))) else (none)) = some r := H
      have A8 := Aside0.mk A80
      clear A80
      by_cases c9 : x5_1.length < 8796093022208
      ·rw [if_pos c9] at H
       have LMc9 := Aside0.mk c9
       clear c9
       obtain ⟨y454, hy454⟩ : ∃ y_ : List ByteArray, y_ = (x5_1 ++ [t453]) := ⟨_, rfl⟩
       replace H : (impl_joined.l0 k1 a1 y454 l0 (l0.length : Int) (wrap64 (x11_1 + 1))) = some r := by first | (rw [hy454]; with_reducible exact H) | (have H2_ := (Option.bind_some _ _).symm.trans H; rw [hy454]; with_reducible exact H2_) | (have H2_ := (Option.bind_some _ _).symm.trans H; with_reducible exact H2_) | with_reducible exact H | (rw [hy454]; exact H) | exact H
       have Ny454 := Aside0.mk hy454
       clear hy454
       have H' := Aside0.mk H
       clear H
       have p452 : 0 ≤ (x11_1 : Int) := of_decide_eq_true asm
       have q452 : x11_1 < (l0.length : Int) := of_decide_eq_true asm
       obtain ⟨ad452, e452, hx452_0⟩ := Kd.at_int HR0.out x11_1 p452 q452
       cases e452
       (first | replace hx452_0 := (HB.out.cell (World.block_lt_of_cell? w _ hx452_0)).trans hx452_0 | skip)
       replace p452 := eq_true p452
       replace q452 := eq_true q452
       go_wp2_with (first | ((with_reducible refine gate_callee (f := 78) rfl ?_); refine goesL_ (some 17) rfl rfl Tryz.func78 (by kernel_rfl) rfl #[.int .i64 (rd l0 x11_1)] rfl lm ?_; (with_reducible refine (impl_FormatInt.calls (rd l0 x11_1) t453 _ (tnow HT.out) A8.out).mono ?_); rintro e w10 ⟨rfl, hb⟩; refine ⟨_, rfl, ?_⟩; replace HO_5 := Aside0.mk (Kd.R_below (rk HO_5.out) hb); replace HB := Aside0.mk (below_step bnow hb); (try clear hb); (try clear hb2); (try clear hk); (try clear hi)) | ((with_reducible refine gate_builtin (b := .append) (xs := #[.tmp 15, .tmp 18]) rfl ?_); at_builtin; refine Kd.R_append Kd.string (w0 := w) w.heap.size rfl (.tmp 15) (.tmp 18) 44 9 (.string ⟨#[]⟩) 16 rfl Tryz.underlying44 info9 rfl (by decide) (by omega) u5 x5_1 t453 [.string t453] (fun _ => True) (fun _ => False) rfl rfl ?aP (fun _ hk => hk.elim) ?aF ?aO ?aB ?aS ?aL ?_; (case aP => exact rfl); (case aB => exact bnow); (case aF => exact (fun _ _ => trivial)); (case aO => exact (rk HO_5.out)); (case aS => exact (below_size bnow)); (case aL => have := LMc9.out; omega); intro v455 w11 ho hb hg hat; rw [← Ny454.out] at ho; replace HB := Aside0.mk (hb); have HO456 := Aside0.mk (ho); clear HO_5; clear ho hb hg hat))
       go_roundg k1
       case measure => have := HK1.out; omega
       case rel => exact ⟨(y454), (wrap64 (x11_1 + 1)), (by first | rfl | (simp; done) | (simp [*]; done)), H', ⟨by have := HK1.out; omega⟩, ⟨rk HO456.out⟩, ⟨bn HB.out⟩⟩
      ·rw [if_neg c9] at H
       exact absurd H (by simp)
     ·rw [if_neg c7] at H
      exact absurd H (by simp)
    ·rw [if_neg c6] at H
     exact absurd H (by simp)
   ·rw [if_neg c5] at H
    have c5b0 : decide (x11_1 < (l0.length : Int)) = false := decide_eq_false c5
    clear c5
    replace H := Option.bind_eq_some_iff.mp H
    obtain ⟨t457, A120, H⟩ := H
    replace H : (some t457) = some r := H
    have A12 := Aside0.mk A120
    clear A120
    obtain rfl := Option.some.inj H
    obtain ⟨Ao13, co13, eo13⟩ := Kd.R_slice HO_5.out
    subst eo13
    go_wp2_with (first | ((with_reducible refine gate_callee (f := 79) rfl ?_); refine goesL_ (some 23) rfl rfl Tryz.func79 (by kernel_rfl) rfl #[.slice Ao13 x5_1.length co13, .string a1] rfl lm ?_; (with_reducible refine (impl_Join.calls _ _ x5_1 a1 t457 _ ?side1 ?side2 A12.out).mono ?_); (case side1 => repeat (first | exact (Kd.R_reads' HO_5.out).2.2 | (with_reducible refine Kd.C_alloc ?_ _) | (with_reducible refine Kd.C_drewN ?_ _) | (with_reducible refine Kd.C_drew ?_))); (case side2 => exact (Kd.R_reads' HO_5.out).2.1); rintro e w14 ⟨rfl, hb⟩; refine ⟨_, rfl, ?_⟩; replace HO_5 := Aside0.mk (Kd.R_below (rk HO_5.out) hb); replace HB := Aside0.mk (below_step bnow hb); (try clear hb); (try clear hb2); (try clear hk); (try clear hi)))
    go_ret
    exact ⟨by first | rfl | (simp [errW_none, errW_some] <;> rfl) | (simp [*, errW_none, errW_some] <;> rfl), bn HB.out⟩

/-! ### impl_PartitionText: function 52 -/
def impl_PartitionText.f (k : Nat) (l0 : List Int) : Option (ByteArray) := (impl_IsPartition.f k l0).bind fun t458 => (if t458 = true then (if (l0.length : Int) = 0 then (some (⟨#[45]⟩ : ByteArray)) else ((impl_joined.f k l0 (⟨#[44]⟩ : ByteArray)).bind fun t459 => (some t459))) else (some (⟨#[]⟩ : ByteArray)))
theorem impl_PartitionText.mono : ∀ a0 k, LeO (impl_PartitionText.f k a0) (impl_PartitionText.f (k + 1) a0) := by
 intro a0 k
 unfold impl_PartitionText.f
 repeat' first
   | (with_reducible exact impl_IsPartition.mono _ _)
   | (with_reducible exact impl_joined.mono _ _ _)
   | (with_reducible exact LeO.refl _)
   | (with_reducible exact LeO.none _)
   | (with_reducible refine LeO.ite ?_ ?_)
   | (with_reducible refine LeO.bind ?_ (fun _ => ?_))
   | exact impl_IsPartition.mono _ _
   | exact impl_joined.mono _ _ _
   | exact LeO.none _
   | refine LeO.ite ?_ ?_
   | refine LeO.bind ?_ (fun _ => ?_)
set_option maxHeartbeats 8000000 in
set_option maxRecDepth 100000 in
theorem impl_PartitionText.calls (k : Nat) (A0 : Option Addr) (c0 : Nat) (l0 : List Int) (r : ByteArray) (w : World) (hr0 : Kd.C (Kd.int .i64) w A0 l0.length l0) (hc0 : l0.length ≤ c0) (ht : Tabs w) (h : impl_PartitionText.f k l0 = some r) :
  Calls Tryz.prog 52 #[.slice A0 l0.length c0] w fun e w' => e = .returned (.string r) ∧ Below w.heap.size w w' := by
 have HT := Aside0.mk ht
 clear ht
 have HR0 := Aside0.mk hr0
 have HC0 := Aside0.mk hc0
 clear hr0 hc0
 have HB := Aside0.mk (Below.refl w.heap.size w)
 have H : ((impl_IsPartition.f k l0).bind fun t458 => (if t458 = true then (if (l0.length : Int) = 0 then (some (⟨#[45]⟩ : ByteArray)) else ((impl_joined.f k l0 (⟨#[44]⟩ : ByteArray)).bind fun t459 => (some t459))) else (some (⟨#[]⟩ : ByteArray)))) = some r := h
 clear h
 replace H := Option.bind_eq_some_iff.mp H
 obtain ⟨t458, A20, H⟩ := H
 replace H : (if t458 = true then (if (l0.length : Int) = 0 then (some (⟨#[45]⟩ : ByteArray)) else ((impl_joined.f k l0 (⟨#[44]⟩ : ByteArray)).bind fun t459 => (some t459))) else (some (⟨#[]⟩ : ByteArray))) = some r := H
 have A2 := Aside0.mk A20
 clear A20
 by_cases c3 : t458 = true
 ·subst c3
  have H1 : (if (l0.length : Int) = 0 then (some (⟨#[45]⟩ : ByteArray)) else ((impl_joined.f k l0 (⟨#[44]⟩ : ByteArray)).bind fun t459 => (some t459))) = some r := by rw [if_pos rfl] at H; exact H
  clear H
  have H := H1
  clear H1
  by_cases c4 : (l0.length : Int) = 0
  ·rw [if_pos c4] at H
   have c4b0 : ((l0.length : Int) == 0) = true := beq_iff_eq.mpr c4
   have c4b1 : ((l0.length : Int) != 0) = false := bne_eq_false_iff_eq.mpr c4
   clear c4
   obtain rfl := Option.some.inj H
   go_enter Tryz.func52, Tryz.ntmps52
   go_wp2_with (first | ((with_reducible refine gate_callee (f := 56) rfl ?_); refine goesL_ (some 5) rfl rfl Tryz.func56 (by kernel_rfl) rfl #[.slice A0 l0.length c0] rfl lm ?_; (with_reducible refine (impl_IsPartition.calls k _ _ l0 true _ (cc HR0.out) HC0.out A2.out).mono ?_); rintro e w' ⟨rfl, ⟨nd, rfl⟩⟩; refine ⟨_, rfl, ?_⟩))
   go_ret
   exact ⟨by first | rfl | (simp [errW_none, errW_some] <;> rfl) | (simp [*, errW_none, errW_some] <;> rfl), bn HB.out⟩
  ·rw [if_neg c4] at H
   have c4b0 : ((l0.length : Int) == 0) = false := beq_eq_false_iff_ne.mpr c4
   have c4b1 : ((l0.length : Int) != 0) = true := bne_iff_ne.mpr c4
   have c4b2 : ¬ (l0 = []) := fun h_ => c4 (by rw [h_]; rfl)
   replace H := Option.bind_eq_some_iff.mp H
   obtain ⟨t459, A50, H⟩ := H
   replace H : (some t459) = some r := H
   have A5 := Aside0.mk A50
   clear A50
   obtain rfl := Option.some.inj H
   go_enter Tryz.func52, Tryz.ntmps52
   go_wp2_with (first | ((with_reducible refine gate_callee (f := 56) rfl ?_); refine goesL_ (some 5) rfl rfl Tryz.func56 (by kernel_rfl) rfl #[.slice A0 l0.length c0] rfl lm ?_; (with_reducible refine (impl_IsPartition.calls k _ _ l0 true _ (cc HR0.out) HC0.out A2.out).mono ?_); rintro e w' ⟨rfl, ⟨nd, rfl⟩⟩; refine ⟨_, rfl, ?_⟩) | ((with_reducible refine gate_callee (f := 68) rfl ?_); refine goesL_ (some 12) rfl rfl Tryz.func68 (by kernel_rfl) rfl #[.slice A0 l0.length c0, .string (⟨#[44]⟩ : ByteArray)] rfl lm ?_; (with_reducible refine (impl_joined.calls k _ _ l0 (⟨#[44]⟩ : ByteArray) t459 _ (cc HR0.out) HC0.out (tnow HT.out) A5.out).mono ?_); rintro e w6 ⟨rfl, hb⟩; refine ⟨_, rfl, ?_⟩; replace HB := Aside0.mk (below_step bnow hb); (try clear hb); (try clear hb2); (try clear hk); (try clear hi)))
   go_ret
   exact ⟨by first | rfl | (simp [errW_none, errW_some] <;> rfl) | (simp [*, errW_none, errW_some] <;> rfl), bn HB.out⟩
 ·replace c3 := Bool.eq_false_iff.mpr c3
  subst c3
  have H1 : (some (⟨#[]⟩ : ByteArray)) = some r := by rw [if_neg (show ¬ (false = true) by decide)] at H; exact H
  clear H
  have H := H1
  clear H1
  obtain rfl := Option.some.inj H
  go_enter Tryz.func52, Tryz.ntmps52
  go_wp2_with (first | ((with_reducible refine gate_callee (f := 56) rfl ?_); refine goesL_ (some 5) rfl rfl Tryz.func56 (by kernel_rfl) rfl #[.slice A0 l0.length c0] rfl lm ?_; (with_reducible refine (impl_IsPartition.calls k _ _ l0 false _ (cc HR0.out) HC0.out A2.out).mono ?_); rintro e w' ⟨rfl, ⟨nd, rfl⟩⟩; refine ⟨_, rfl, ?_⟩))
  go_ret
  exact ⟨by first | rfl | (simp [errW_none, errW_some] <;> rfl) | (simp [*, errW_none, errW_some] <;> rfl), bn HB.out⟩

/-! ### impl_ShapeText: function 28 -/
def impl_ShapeText.f (k : Nat) (l0_0 : List Int) (l0_1 : List Int) : Option (ByteArray) := (impl_IsShape.f k l0_0 l0_1).bind fun t461 => (if t461 = true then (if (l0_1.length : Int) = 0 then ((impl_PartitionText.f k l0_0).bind fun t462 => (some t462)) else ((impl_PartitionText.f k l0_0).bind fun t463 => (if t463.size + 1 ≤ 9223372036854775807 then ((impl_PartitionText.f k l0_1).bind fun t464 => (if (t463 ++ (⟨#[47]⟩ : ByteArray)).size + t464.size ≤ 9223372036854775807 then (some ((t463 ++ (⟨#[47]⟩ : ByteArray)) ++ t464)) else (none))) else (none)))) else (some (⟨#[]⟩ : ByteArray)))
theorem impl_ShapeText.mono : ∀ a0 a1 k, LeO (impl_ShapeText.f k a0 a1) (impl_ShapeText.f (k + 1) a0 a1) := by
 intro a0 a1 k
 unfold impl_ShapeText.f
 repeat' first
   | (with_reducible exact impl_IsShape.mono _ _ _)
   | (with_reducible exact impl_PartitionText.mono _ _)
   | (with_reducible exact LeO.refl _)
   | (with_reducible exact LeO.none _)
   | (with_reducible refine LeO.ite ?_ ?_)
   | (with_reducible refine LeO.bind ?_ (fun _ => ?_))
   | exact impl_IsShape.mono _ _ _
   | exact impl_PartitionText.mono _ _
   | exact LeO.none _
   | refine LeO.ite ?_ ?_
   | refine LeO.bind ?_ (fun _ => ?_)
def impl_ShapeText.T5 : Bool × List (List Nat × List Nat) := (true, [([], []), ([0], [0]), ([1], [1]), ([2], [2]), ([], []), ([4], [4]), ([5, 2], [5]), ([3, 6], [3, 6]), ([7, 6, 0, 1, 2, 3, 4, 5, 6, 7], [7])])
def impl_ShapeText.B5 : List Nat := [0, 1, 3, 7, 0, 16, 55, 127, 255]
theorem impl_ShapeText.tab5 : rtab .any (opsOf Tryz.f28 5) = impl_ShapeText.T5 := by kernel_rfl
theorem impl_ShapeText.bits5 : waitsOk impl_ShapeText.T5.2 impl_ShapeText.B5 = true := by kernel_rfl
set_option maxHeartbeats 8000000 in
set_option maxRecDepth 100000 in
theorem impl_ShapeText.calls (k : Nat) (A0_0 : Option Addr) (c0_0 : Nat) (l0_0 : List Int) (A0_1 : Option Addr) (c0_1 : Nat) (l0_1 : List Int) (r : ByteArray) (w : World) (hr0_0 : Kd.C (Kd.int .i64) w A0_0 l0_0.length l0_0) (hc0_0 : l0_0.length ≤ c0_0) (hr0_1 : Kd.C (Kd.int .i64) w A0_1 l0_1.length l0_1) (hc0_1 : l0_1.length ≤ c0_1) (ht : Tabs w) (h : impl_ShapeText.f k l0_0 l0_1 = some r) :
  Calls Tryz.prog 28 #[.agg #[.slice A0_0 l0_0.length c0_0, .slice A0_1 l0_1.length c0_1]] w fun e w' => e = .returned (.string r) ∧ Below w.heap.size w w' := by
 have HT := Aside0.mk ht
 clear ht
 have hu26 := Tryz.underlying26
 have HR0_0 := Aside0.mk hr0_0
 have HC0_0 := Aside0.mk hc0_0
 clear hr0_0 hc0_0
 have HR0_1 := Aside0.mk hr0_1
 have HC0_1 := Aside0.mk hc0_1
 clear hr0_1 hc0_1
 have HB := Aside0.mk (Below.refl w.heap.size w)
 have H : ((impl_IsShape.f k l0_0 l0_1).bind fun t461 => (if t461 = true then (if (l0_1.length : Int) = 0 then ((impl_PartitionText.f k l0_0).bind fun t462 => (some t462)) else ((impl_PartitionText.f k l0_0).bind fun t463 => (if t463.size + 1 ≤ 9223372036854775807 then ((impl_PartitionText.f k l0_1).bind fun t464 => (if (t463 ++ (⟨#[47]⟩ : ByteArray)).size + t464.size ≤ 9223372036854775807 then (some ((t463 ++ (⟨#[47]⟩ : ByteArray)) ++ t464)) else (none))) else (none)))) else (some (⟨#[]⟩ : ByteArray)))) = some r := h
 clear h
 replace H := Option.bind_eq_some_iff.mp H
 obtain ⟨t461, A20, H⟩ := H
 replace H : (if t461 = true then (if (l0_1.length : Int) = 0 then ((impl_PartitionText.f k l0_0).bind fun t462 => (some t462)) else ((impl_PartitionText.f k l0_0).bind fun t463 => (if t463.size + 1 ≤ 9223372036854775807 then ((impl_PartitionText.f k l0_1).bind fun t464 => (if (t463 ++ (⟨#[47]⟩ : ByteArray)).size + t464.size ≤ 9223372036854775807 then (some ((t463 ++ (⟨#[47]⟩ : ByteArray)) ++ t464)) else (none))) else (none)))) else (some (⟨#[]⟩ : ByteArray))) = some r := H
 have A2 := Aside0.mk A20
 clear A20
 by_cases c3 : t461 = true
 ·subst c3
  have H1 : (if (l0_1.length : Int) = 0 then ((impl_PartitionText.f k l0_0).bind fun t462 => (some t462)) else ((impl_PartitionText.f k l0_0).bind fun t463 => (if t463.size + 1 ≤ 9223372036854775807 then ((impl_PartitionText.f k l0_1).bind fun t464 => (if (t463 ++ (⟨#[47]⟩ : ByteArray)).size + t464.size ≤ 9223372036854775807 then (some ((t463 ++ (⟨#[47]⟩ : ByteArray)) ++ t464)) else (none))) else (none)))) = some r := by rw [if_pos rfl] at H; exact H
  clear H
  have H := H1
  clear H1
  by_cases c4 : (l0_1.length : Int) = 0
  ·rw [if_pos c4] at H
   have c4b0 : ((l0_1.length : Int) == 0) = true := beq_iff_eq.mpr c4
   have c4b1 : ((l0_1.length : Int) != 0) = false := bne_eq_false_iff_eq.mpr c4
   clear c4
   replace H := Option.bind_eq_some_iff.mp H
   obtain ⟨t462, A50, H⟩ := H
   replace H : (some t462) = some r := H
   have A5 := Aside0.mk A50
   clear A50
   obtain rfl := Option.some.inj H
   go_enter Tryz.func28, Tryz.ntmps28
   go_wp2_with (first | (refine boxE 1 #[.slice A0_0 l0_0.length c0_0, .slice A0_1 l0_1.length c0_1] 26 rfl ?_; intro gb460 hg w6 hbox hb; have BK460 := Aside0.mk (hbox); have GW460 := Aside0.mk ((by rw [hg]; exact (below_size bnow) : w.heap.size ≤ gb460)); have GE460 := Aside0.mk ((by rw [hg]; exact (below_size bnow) : w.heap.size ≤ gb460)); replace HB := Aside0.mk (below_step bnow hb); clear hb hbox hg; have hcz7_0 : w6.cell? ⟨gb460, 0, none⟩ = some (.slice A0_0 l0_0.length c0_0) := (blk_cell BK460.out 0).trans rfl; have hcz7_1 : w6.cell? ⟨gb460, 1, none⟩ = some (.slice A0_1 l0_1.length c0_1) := (blk_cell BK460.out 1).trans rfl; have hfz7_0 := blk_frozen BK460.out 0; have hfz7_1 := blk_frozen BK460.out 1) | ((with_reducible refine gate_callee (f := 24) rfl ?_); refine goesL_ (some 5) rfl rfl Tryz.func24 (by kernel_rfl) rfl #[.agg #[.slice A0_0 l0_0.length c0_0, .slice A0_1 l0_1.length c0_1]] rfl lm ?_; (with_reducible refine (impl_IsShape.calls k _ _ l0_0 _ _ l0_1 true _ (cb HR0_0.out) HC0_0.out (cb HR0_1.out) HC0_1.out A2.out).mono ?_); rintro e w8 ⟨rfl, hb⟩; refine ⟨_, rfl, ?_⟩; replace BK460 := Aside0.mk (blk_below (bk BK460.out) hb); replace HB := Aside0.mk (below_step (bn HB.out) hb); (try clear hb); (try clear hb2); (try clear hk); (try clear hi); have hcz9_0 : w8.cell? ⟨gb460, 0, none⟩ = some (.slice A0_0 l0_0.length c0_0) := (blk_cell BK460.out 0).trans rfl; have hcz9_1 : w8.cell? ⟨gb460, 1, none⟩ = some (.slice A0_1 l0_1.length c0_1) := (blk_cell BK460.out 1).trans rfl; have hfz9_0 := blk_frozen BK460.out 0; have hfz9_1 := blk_frozen BK460.out 1) | ((with_reducible refine gate_callee (f := 52) rfl ?_); refine goesL_ (some 14) rfl rfl Tryz.func52 (by kernel_rfl) rfl #[.slice A0_0 l0_0.length c0_0] rfl lm ?_; (with_reducible refine (impl_PartitionText.calls k _ _ l0_0 t462 _ (cb HR0_0.out) HC0_0.out (tnow HT.out) A5.out).mono ?_); rintro e w10 ⟨rfl, hb⟩; refine ⟨_, rfl, ?_⟩; replace BK460 := Aside0.mk (blk_below (bk BK460.out) hb); replace HB := Aside0.mk (below_step (bn HB.out) hb); (try clear hb); (try clear hb2); (try clear hk); (try clear hi)))
   go_ret
   exact ⟨by first | rfl | (simp [errW_none, errW_some] <;> rfl) | (simp [*, errW_none, errW_some] <;> rfl), bn HB.out⟩
  ·rw [if_neg c4] at H
   have c4b0 : ((l0_1.length : Int) == 0) = false := beq_eq_false_iff_ne.mpr c4
   have c4b1 : ((l0_1.length : Int) != 0) = true := bne_iff_ne.mpr c4
   have c4b2 : ¬ (l0_1 = []) := fun h_ => c4 (by rw [h_]; rfl)
   replace H := Option.bind_eq_some_iff.mp H
   obtain ⟨t463, A110, H⟩ := H
   replace H : (if t463.size + 1 ≤ 9223372036854775807 then ((impl_PartitionText.f k l0_1).bind fun t464 => (if (t463 ++ (⟨#[47]⟩ : ByteArray)).size + t464.size ≤ 9223372036854775807 then (some ((t463 ++ (⟨#[47]⟩ : ByteArray)) ++ t464)) else (none))) else (none)) = some r := H
   have A11 := Aside0.mk A110
   clear A110
   by_cases c12 : t463.size + 1 ≤ 9223372036854775807
   ·rw [if_pos c12] at H
    have c12b0 := eq_true c12
    have c12b1 : decide (t463.size + 1 ≤ 9223372036854775807) = true := decide_eq_true c12
    try have c12b2 : (9223372036854775807 < t463.size + 1) = False := eq_false (Nat.not_lt.2 c12)
    replace H := Option.bind_eq_some_iff.mp H
    obtain ⟨t464, A130, H⟩ := H
    replace H : (if (t463 ++ (⟨#[47]⟩ : ByteArray)).size + t464.size ≤ 9223372036854775807 then (some ((t463 ++ (⟨#[47]⟩ : ByteArray)) ++ t464)) else (none)) = some r := H
    have A13 := Aside0.mk A130
    clear A130
    by_cases c14 : (t463 ++ (⟨#[47]⟩ : ByteArray)).size + t464.size ≤ 9223372036854775807
    ·rw [if_pos c14] at H
     have c14b0 := eq_true c14
     have c14b1 : decide ((t463 ++ (⟨#[47]⟩ : ByteArray)).size + t464.size ≤ 9223372036854775807) = true := decide_eq_true c14
     try have c14b2 : (9223372036854775807 < (t463 ++ (⟨#[47]⟩ : ByteArray)).size + t464.size) = False := eq_false (Nat.not_lt.2 c14)
     try have c14b3 : (9223372036854775807 < t463.size + 1 + t464.size) = False := eq_false (Nat.not_lt.2 (by have h_ := c14; rw [ByteArray.size_append] at h_; exact h_))
     obtain rfl := Option.some.inj H
     go_enter Tryz.func28, Tryz.ntmps28
     try go_wp2_with (first | (refine boxE 1 #[.slice A0_0 l0_0.length c0_0, .slice A0_1 l0_1.length c0_1] 26 rfl ?_; intro gb460 hg w15 hbox hb; have BK460 := Aside0.mk (hbox); have GW460 := Aside0.mk ((by rw [hg]; exact (below_size bnow) : w.heap.size ≤ gb460)); have GE460 := Aside0.mk ((by rw [hg]; exact (below_size bnow) : w.heap.size ≤ gb460)); replace HB := Aside0.mk (below_step bnow hb); clear hb hbox hg; have hcz16_0 : w15.cell? ⟨gb460, 0, none⟩ = some (.slice A0_0 l0_0.length c0_0) := (blk_cell BK460.out 0).trans rfl; have hcz16_1 : w15.cell? ⟨gb460, 1, none⟩ = some (.slice A0_1 l0_1.length c0_1) := (blk_cell BK460.out 1).trans rfl; have hfz16_0 := blk_frozen BK460.out 0; have hfz16_1 := blk_frozen BK460.out 1) | ((with_reducible refine gate_callee (f := 24) rfl ?_); refine goesL_ (some 5) rfl rfl Tryz.func24 (by kernel_rfl) rfl #[.agg #[.slice A0_0 l0_0.length c0_0, .slice A0_1 l0_1.length c0_1]] rfl lm ?_; (with_reducible refine (impl_IsShape.calls k _ _ l0_0 _ _ l0_1 true _ (cb HR0_0.out) HC0_0.out (cb HR0_1.out) HC0_1.out A2.out).mono ?_); rintro e w17 ⟨rfl, hb⟩; refine ⟨_, rfl, ?_⟩; replace BK460 := Aside0.mk (blk_below (bk BK460.out) hb); replace HB := Aside0.mk (below_step (bn HB.out) hb); (try clear hb); (try clear hb2); (try clear hk); (try clear hi); have hcz18_0 : w17.cell? ⟨gb460, 0, none⟩ = some (.slice A0_0 l0_0.length c0_0) := (blk_cell BK460.out 0).trans rfl; have hcz18_1 : w17.cell? ⟨gb460, 1, none⟩ = some (.slice A0_1 l0_1.length c0_1) := (blk_cell BK460.out 1).trans rfl; have hfz18_0 := blk_frozen BK460.out 0; have hfz18_1 := blk_frozen BK460.out 1))
     have n0_ := Aside0.mk (blk_drew BK460.out)
     have n1_ := Aside0.mk (below_drew1 HB.out)
     clear BK460
     clear HB
     have BK460 := n0_
     have HB := n1_
     clear n0_ n1_
     refine start_ (n := 9) (S := fun w' => w'.cell? ⟨gb460, 0, none⟩ = some (.slice A0_0 l0_0.length c0_0) ∧ w'.cell? ⟨gb460, 1, none⟩ = some (.slice A0_1 l0_1.length c0_1)) (ds := []) (tf 9 0) (by kernel_rfl) rfl rfl ⟨(blk_cell BK460.out 0).trans rfl, (blk_cell BK460.out 1).trans rfl⟩ (fun hHeld => ?_); refine with_tabW impl_ShapeText.tab5 impl_ShapeText.bits5 (fun HT_ HW_ => ?_)
     generalize w17.drew = w19 at BK460 HB hHeld ⊢
     refine pure1 0 15 (tf 9 1) (ay HT_.out) ?_
     refine pure1 4 19 #[true, false, false, false, true, false, false, false, false] (ay HT_.out) ?_
     refine take_ (i := 1) (N := some 16) (v := ?_) (a' := ?_) #[true, true, false, false, true, false, false, false, false] rfl rfl (take_ofW HT_.out HW_.out (by kernel_rfl)) (fun _ _ _ h => h) (Or.inl ⟨by rfl, ?_⟩) hHeld ?_ ?_
     rotate_left
     ·rintro w' ⟨s0, s1⟩
      go_simp
      with_reducible rfl
     rotate_left
     ·simp only [Act.put, List.setIfInBounds_toArray, List.set_cons_zero, List.set_cons_succ, i64_w, i32_w]
      rfl
     refine take_ (i := 5) (N := some 20) (v := ?_) (a' := ?_) #[true, true, false, false, true, true, false, false, false] rfl rfl (take_ofW HT_.out HW_.out (by kernel_rfl)) (fun _ _ _ h => h) (Or.inl ⟨by rfl, ?_⟩) hHeld ?_ ?_
     rotate_left
     ·rintro w' ⟨s0, s1⟩
      go_simp
      with_reducible rfl
     rotate_left
     ·simp only [Act.put, List.setIfInBounds_toArray, List.set_cons_zero, List.set_cons_succ, i64_w, i32_w]
      rfl
     refine one_ (i := 2) (N := some 17) #[true, true, true, false, true, true, false, false, false] rfl rfl (one_of HT_.out (by kernel_rfl)) (by decide) (fun K hK => ?_)
     refine goes_ Tryz.func52 (by kernel_rfl) rfl #[.slice A0_0 l0_0.length c0_0] (by rfl) rfl rfl lm ?_
     with_reducible refine (impl_PartitionText.calls k _ _ l0_0 t463 _ ?side1 ?side2 (tnow HT.out) A11.out).mono ?_
     (case side1 => exact cb HR0_0.out)
     (case side2 => exact HC0_0.out)
     rintro e w20 ⟨rfl, hb⟩
     refine ⟨_, rfl, ?_⟩
     have n0_ := Aside0.mk (blk_below (bk BK460.out) hb)
     have n1_ := Aside0.mk (below_step (bn HB.out) hb)
     clear BK460
     clear HB
     have BK460 := n0_
     have HB := n1_
     clear n0_ n1_
     (try clear hb)
     (try clear hb2)
     (try clear hk)
     (try clear hi)
     refine hK.out _ _ ⟨(blk_cell BK460.out 0).trans rfl, (blk_cell BK460.out 1).trans rfl⟩ (fun hHeld => ?_)
     clear hK K
     refine norm1 17 ?_
     refine pure1 3 18 (tf 9 6) (ay HT_.out) ?_
     refine one_ (i := 6) (N := some 21) (tf 9 7) rfl rfl (one_of HT_.out (by kernel_rfl)) (by decide) (fun K hK => ?_)
     refine goes_ Tryz.func52 (by kernel_rfl) rfl #[.slice A0_1 l0_1.length c0_1] (by rfl) rfl rfl lm ?_
     with_reducible refine (impl_PartitionText.calls k _ _ l0_1 t464 _ ?side1 ?side2 (tnow HT.out) A13.out).mono ?_
     (case side1 => exact cb HR0_1.out)
     (case side2 => exact HC0_1.out)
     rintro e w21 ⟨rfl, hb⟩
     refine ⟨_, rfl, ?_⟩
     have n0_ := Aside0.mk (blk_below (bk BK460.out) hb)
     have n1_ := Aside0.mk (below_step (bn HB.out) hb)
     clear BK460
     clear HB
     have BK460 := n0_
     have HB := n1_
     clear n0_ n1_
     (try clear hb)
     (try clear hb2)
     (try clear hk)
     (try clear hi)
     refine hK.out _ _ ⟨(blk_cell BK460.out 0).trans rfl, (blk_cell BK460.out 1).trans rfl⟩ (fun hHeld => ?_)
     clear hK K
     refine norm1 21 ?_
     refine pure1 7 22 (tf 9 8) (ay HT_.out) ?_
     refine pure1 8 2 (tf 9 9) (ay HT_.out) ?_
     refine done_ (done_of HT_.out (by kernel_rfl)) ?_
     try go_wp2
     go_ret
     exact ⟨by first | rfl | (simp [errW_none, errW_some] <;> rfl) | (simp [*, errW_none, errW_some] <;> rfl), bn HB.out⟩
    ·rw [if_neg c14] at H
     exact absurd H (by simp)
   ·rw [if_neg c12] at H
    exact absurd H (by simp)
 ·replace c3 := Bool.eq_false_iff.mpr c3
  subst c3
  have H1 : (some (⟨#[]⟩ : ByteArray)) = some r := by rw [if_neg (show ¬ (false = true) by decide)] at H; exact H
  clear H
  have H := H1
  clear H1
  obtain rfl := Option.some.inj H
  go_enter Tryz.func28, Tryz.ntmps28
  go_wp2_with (first | (refine boxE 1 #[.slice A0_0 l0_0.length c0_0, .slice A0_1 l0_1.length c0_1] 26 rfl ?_; intro gb460 hg w22 hbox hb; have BK460 := Aside0.mk (hbox); have GW460 := Aside0.mk ((by rw [hg]; exact (below_size bnow) : w.heap.size ≤ gb460)); have GE460 := Aside0.mk ((by rw [hg]; exact (below_size bnow) : w.heap.size ≤ gb460)); replace HB := Aside0.mk (below_step bnow hb); clear hb hbox hg; have hcz23_0 : w22.cell? ⟨gb460, 0, none⟩ = some (.slice A0_0 l0_0.length c0_0) := (blk_cell BK460.out 0).trans rfl; have hcz23_1 : w22.cell? ⟨gb460, 1, none⟩ = some (.slice A0_1 l0_1.length c0_1) := (blk_cell BK460.out 1).trans rfl; have hfz23_0 := blk_frozen BK460.out 0; have hfz23_1 := blk_frozen BK460.out 1) | ((with_reducible refine gate_callee (f := 24) rfl ?_); refine goesL_ (some 5) rfl rfl Tryz.func24 (by kernel_rfl) rfl #[.agg #[.slice A0_0 l0_0.length c0_0, .slice A0_1 l0_1.length c0_1]] rfl lm ?_; (with_reducible refine (impl_IsShape.calls k _ _ l0_0 _ _ l0_1 false _ (cb HR0_0.out) HC0_0.out (cb HR0_1.out) HC0_1.out A2.out).mono ?_); rintro e w24 ⟨rfl, hb⟩; refine ⟨_, rfl, ?_⟩; replace BK460 := Aside0.mk (blk_below (bk BK460.out) hb); replace HB := Aside0.mk (below_step (bn HB.out) hb); (try clear hb); (try clear hb2); (try clear hk); (try clear hi)))
  go_ret
  exact ⟨by first | rfl | (simp [errW_none, errW_some] <;> rfl) | (simp [*, errW_none, errW_some] <;> rfl), bn HB.out⟩

/-! ### strings_Cut: function 38 -/
def strings_Cut.f (a0 : ByteArray) (a1 : ByteArray) : Option (ByteArray × ByteArray × Bool) := if a0.size < 4294967281 then some (⟨(Lib.cut a0.data.toList a1.data.toList).1.toArray⟩, ⟨(Lib.cut a0.data.toList a1.data.toList).2.1.toArray⟩, (Lib.cut a0.data.toList a1.data.toList).2.2) else none
theorem strings_Cut.calls (a0 a1 : ByteArray) (r1 r2 : ByteArray) (r3 : Bool) (w : World) (ht : Tabs w) (h : strings_Cut.f a0 a1 = some (r1, r2, r3)) :
  Calls Tryz.prog 38 #[.string a0, .string a1] w fun e w' => e = .returned (.tuple #[.string r1, .string r2, .bool r3]) ∧ Below w.heap.size w w' := by
 unfold strings_Cut.f at h
 by_cases h0 : a0.size < 4294967281
 ·rw [if_pos h0] at h
  simp only [Option.some.injEq, Prod.mk.injEq] at h
  obtain ⟨rfl, rfl, rfl⟩ := h
  obtain ⟨m, hm⟩ := ht.max
  refine (Tryz.strings_Cut a0 a1 m w h0 hm).mono ?_
  rintro e w' ⟨rfl, k, rfl⟩
  exact ⟨rfl, pw_below_drewN (Below.refl _ _) k⟩
 ·rw [if_neg h0] at h
  cases h

/-! ### strings_Split: function 63 -/
def strings_Split.f (a0 : ByteArray) (a1 : ByteArray) : Option (List ByteArray) := if a0.size < 4294967281 then (if 1 ≤ a1.size then some (Lib.splitB a1 0 (Lib.countB a0 a1) a0) else none) else none
theorem strings_Split.calls (a0 a1 : ByteArray) (r : List ByteArray) (w : World) (ht : Tabs w) (h : strings_Split.f a0 a1 = some r) :
  Calls Tryz.prog 63 #[.string a0, .string a1] w fun e w' => ∃ v0_ : Value, e = .returned (v0_) ∧ Kd.R Kd.string 9 w' w.heap.size (fun _ => True) v0_ r ∧ Below w.heap.size w w' := by
 unfold strings_Split.f at h
 by_cases h0 : a0.size < 4294967281
 ·rw [if_pos h0] at h
  by_cases h1 : 1 ≤ a1.size
  ·rw [if_pos h1] at h
   obtain rfl := Option.some.inj h
   obtain ⟨m, hm⟩ := ht.max
   refine (Tryz.strings_Split a0 a1 m w h0 hm h1).mono ?_
   rintro e w' ⟨rfl, rfl⟩
   have hl := Lib.splitB_all a1 h1 0 _ a0 rfl
   have hn := Lib.countB_le a1 h1 _ a0 (Nat.le_refl _)
   have ho := own_lit_of (enc := Value.string) w w.heap.size 9 (Lib.splitB a1 0 (Lib.countB a0 a1) a0) (Nat.le_refl _) (by rw [hl]; omega)
   rw [hl] at ho
   refine ⟨_, rfl, ?_, below_alloc (Below.refl _ _) _⟩
   exact Kd.R_of_own (h1 := fun _ => rfl) (by rw [hl]; exact ho) (fun _ _ => trivial)
  ·rw [if_neg h1] at h
   cases h
 ·rw [if_neg h0] at h
  cases h

end Go.Proofs.YtkbomfpebhjaoaaGreatDoor.QFnShapes
