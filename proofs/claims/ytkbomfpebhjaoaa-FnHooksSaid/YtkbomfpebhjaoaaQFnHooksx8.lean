/- A text of this session's own program (wip/myprint.py): functions that the law FnHooks reaches, as plain Lean functions, each with the proof that the call does just that. No condition beyond those that each statement bears. -/
import Derived.Test.YtkbomfpebhjaoaaQFnHooksx0
import Derived.Test.YtkbomfpebhjaoaaQFnHooksx1
import Derived.Test.YtkbomfpebhjaoaaQFnHooksx2
import Derived.Test.YtkbomfpebhjaoaaQFnHooksx3
import Derived.Test.YtkbomfpebhjaoaaQFnHooksx4
import Derived.Test.YtkbomfpebhjaoaaQFnHooksx5
import Derived.Test.YtkbomfpebhjaoaaQFnHooksx6
import Derived.Test.YtkbomfpebhjaoaaQFnHooksx7
namespace Go.Proofs.Ytkbomfpebhjaoaa.QFnHooks
open Go.RowKit Go.Proofs.YtkbomfpebhjaoaaW.PrintWords Go.Proofs.YtkbomfpebhjaoaaW.PrintLast Go.Proofs.YtkbomfpebhjaoaaW.PrintMore
attribute [local go_sem] max2_int min2_int max_two min_two max_three min_three max_four min_four   -- for this text's walks alone
set_option linter.unusedVariables false
set_option linter.unusedSimpArgs false

/-! ### laws_FnHooks: function 3 -/
mutual
def laws_FnHooks.j0 : Nat → List Int → Int → Bool → Option (Bool)
  | 0, _, _, _ => none
  | k + 1, x6, x7, x105 => if x105 = true then (some false) else ((spec_IsPartition.f k x6).bind fun t405 => (if t405 = true then ((spec_Corners.f k x6).bind fun t406 => (laws_FnHooks.l0 k x6 x7 0 t406 0)) else (some (x7 == 0))))
def laws_FnHooks.l0 : Nat → List Int → Int → Int → List Int → Int → Option (Bool)
  | 0, _, _, _, _, _ => none
  | k + 1, x6, x7, x11, x12, x13 => if x13 < (x12.length : Int) then (if 0 ≤ x13 then ((spec_RemoveBox.f k x6 (rd x12 x13)).bind fun bt410 => ((impl_StandardCount.f k bt410.1).bind fun t414 => (laws_FnHooks.l0 k x6 x7 (wrap64 (x11 + t414)) x12 (wrap64 (x13 + 1))))) else (none)) else (if (x6.length : Int) = 0 then (if x7 = 1 then ((impl_HookProduct.f k x6).bind fun t415 => ((spec_SizeOf.f k x6).bind fun t416 => ((laws_factorial.f k t416).bind fun t417 => (if (wrap64 (x7 * t415)) = t417 then ((spec_Conjugate.f k x6).bind fun t418 => ((impl_StandardCount.f k t418).bind fun t421 => (some (t421 == x7)))) else (some false))))) else (if x11 = x7 then ((impl_HookProduct.f k x6).bind fun t422 => ((spec_SizeOf.f k x6).bind fun t423 => ((laws_factorial.f k t423).bind fun t424 => (if (wrap64 (x7 * t422)) = t424 then ((spec_Conjugate.f k x6).bind fun t425 => ((impl_StandardCount.f k t425).bind fun t428 => (some (t428 == x7)))) else (some false))))) else (some false))) else (if x11 = x7 then ((impl_HookProduct.f k x6).bind fun t429 => ((spec_SizeOf.f k x6).bind fun t430 => ((laws_factorial.f k t430).bind fun t431 => (if (wrap64 (x7 * t429)) = t431 then ((spec_Conjugate.f k x6).bind fun t432 => ((impl_StandardCount.f k t432).bind fun t435 => (some (t435 == x7)))) else (some false))))) else (some false)))
end
def laws_FnHooks.f (k : Nat) (l0 : List Int) : Option (Bool) := (laws_big.f l0).bind fun t371 => (if t371 = true then (some true) else ((spec_DrawHookOf.f k l0).bind fun bt372 => ((spec_DrawStandardCount.f k l0).bind fun t377 => ((impl_StandardCount.f k t377).bind fun t380 => ((impl_HookLengths.f k t377).bind fun t381 => ((spec_DrawColumnCount.f k l0).bind fun bt384 => ((impl_HookOf.f k bt372.1 bt372.2.1 bt372.2.2).bind fun t388 => ((spec_HookOf.f k bt372.1 bt372.2.1 bt372.2.2).bind fun t389 => (if t388 = t389 then ((impl_ArmOf.f k bt372.1 bt372.2.1 bt372.2.2).bind fun t390 => ((spec_ArmOf.f k bt372.1 bt372.2.1 bt372.2.2).bind fun t391 => (if t390 = t391 then ((impl_LegOf.f k bt372.1 bt372.2.1 bt372.2.2).bind fun t392 => ((spec_LegOf.f k bt372.1 bt372.2.1 bt372.2.2).bind fun t393 => (if t392 = t393 then ((impl_ContentOf.f k bt372.1 bt372.2.1 bt372.2.2).bind fun t394 => ((spec_ContentOf.f k bt372.1 bt372.2.1 bt372.2.2).bind fun t395 => (if t394 = t395 then ((spec_StandardCount.f k t377).bind fun t396 => (if t380 = t396 then ((spec_HookLengths.f k t377).bind fun t397 => ((laws_sameLists.f k t381 t397).bind fun t400 => (if t400 = true then ((impl_HookProduct.f k t377).bind fun t401 => ((spec_HookProduct.f k t377).bind fun t402 => (if t401 = t402 then ((impl_ColumnCount.f k bt384.1 bt384.2).bind fun t403 => ((spec_ColumnCount.f k bt384.1 bt384.2).bind fun t404 => (laws_FnHooks.j0 k t377 t380 (t403 != t404)))) else (laws_FnHooks.j0 k t377 t380 true)))) else (laws_FnHooks.j0 k t377 t380 true)))) else (laws_FnHooks.j0 k t377 t380 true))) else (laws_FnHooks.j0 k t377 t380 true)))) else (laws_FnHooks.j0 k t377 t380 true)))) else (laws_FnHooks.j0 k t377 t380 true)))) else (laws_FnHooks.j0 k t377 t380 true))))))))))
theorem laws_FnHooks.mono_l : ∀ k, (∀ y0 y1 y2, LeO (laws_FnHooks.j0 k y0 y1 y2) (laws_FnHooks.j0 (k + 1) y0 y1 y2)) ∧ (∀ y0 y1 y2 y3 y4, LeO (laws_FnHooks.l0 k y0 y1 y2 y3 y4) (laws_FnHooks.l0 (k + 1) y0 y1 y2 y3 y4))
  | 0 => ⟨fun _ _ _ r h => by simp [laws_FnHooks.j0] at h, fun _ _ _ _ _ r h => by simp [laws_FnHooks.l0] at h⟩
  | k + 1 => by
    obtain ⟨ih0, ih1⟩ := laws_FnHooks.mono_l k
    refine ⟨?_, ?_⟩
    · intro y0 y1 y2
      unfold laws_FnHooks.j0
      repeat' first
      | (with_reducible exact ih0 _ _ _)
      | (with_reducible exact ih1 _ _ _ _ _)
      | (with_reducible exact impl_ArmOf.mono _ _ _ _)
      | (with_reducible exact impl_ColumnCount.mono _ _ _)
      | (with_reducible exact impl_ContentOf.mono _ _ _ _)
      | (with_reducible exact impl_HookLengths.mono _ _)
      | (with_reducible exact impl_HookOf.mono _ _ _ _)
      | (with_reducible exact impl_HookProduct.mono _ _)
      | (with_reducible exact impl_LegOf.mono _ _ _ _)
      | (with_reducible exact impl_StandardCount.mono _ _)
      | (with_reducible exact laws_factorial.mono _ _)
      | (with_reducible exact laws_sameLists.mono _ _ _)
      | (with_reducible exact spec_ArmOf.mono _ _ _ _)
      | (with_reducible exact spec_ColumnCount.mono _ _ _)
      | (with_reducible exact spec_Conjugate.mono _ _)
      | (with_reducible exact spec_ContentOf.mono _ _ _ _)
      | (with_reducible exact spec_Corners.mono _ _)
      | (with_reducible exact spec_DrawColumnCount.mono _ _)
      | (with_reducible exact spec_DrawHookOf.mono _ _)
      | (with_reducible exact spec_DrawStandardCount.mono _ _)
      | (with_reducible exact spec_HookLengths.mono _ _)
      | (with_reducible exact spec_HookOf.mono _ _ _ _)
      | (with_reducible exact spec_HookProduct.mono _ _)
      | (with_reducible exact spec_IsPartition.mono _ _)
      | (with_reducible exact spec_LegOf.mono _ _ _ _)
      | (with_reducible exact spec_RemoveBox.mono _ _ _)
      | (with_reducible exact spec_SizeOf.mono _ _)
      | (with_reducible exact spec_StandardCount.mono _ _)
      | (with_reducible exact LeO.refl _)
      | (with_reducible exact LeO.none _)
      | (with_reducible refine LeO.ite ?_ ?_)
      | (with_reducible refine LeO.bind ?_ (fun _ => ?_))
      | exact ih0 _ _ _
      | exact ih1 _ _ _ _ _
      | exact impl_ArmOf.mono _ _ _ _
      | exact impl_ColumnCount.mono _ _ _
      | exact impl_ContentOf.mono _ _ _ _
      | exact impl_HookLengths.mono _ _
      | exact impl_HookOf.mono _ _ _ _
      | exact impl_HookProduct.mono _ _
      | exact impl_LegOf.mono _ _ _ _
      | exact impl_StandardCount.mono _ _
      | exact laws_factorial.mono _ _
      | exact laws_sameLists.mono _ _ _
      | exact spec_ArmOf.mono _ _ _ _
      | exact spec_ColumnCount.mono _ _ _
      | exact spec_Conjugate.mono _ _
      | exact spec_ContentOf.mono _ _ _ _
      | exact spec_Corners.mono _ _
      | exact spec_DrawColumnCount.mono _ _
      | exact spec_DrawHookOf.mono _ _
      | exact spec_DrawStandardCount.mono _ _
      | exact spec_HookLengths.mono _ _
      | exact spec_HookOf.mono _ _ _ _
      | exact spec_HookProduct.mono _ _
      | exact spec_IsPartition.mono _ _
      | exact spec_LegOf.mono _ _ _ _
      | exact spec_RemoveBox.mono _ _ _
      | exact spec_SizeOf.mono _ _
      | exact spec_StandardCount.mono _ _
      | exact LeO.none _
      | refine LeO.ite ?_ ?_
      | refine LeO.bind ?_ (fun _ => ?_)
    · intro y0 y1 y2 y3 y4
      unfold laws_FnHooks.l0
      repeat' first
      | (with_reducible exact ih0 _ _ _)
      | (with_reducible exact ih1 _ _ _ _ _)
      | (with_reducible exact impl_ArmOf.mono _ _ _ _)
      | (with_reducible exact impl_ColumnCount.mono _ _ _)
      | (with_reducible exact impl_ContentOf.mono _ _ _ _)
      | (with_reducible exact impl_HookLengths.mono _ _)
      | (with_reducible exact impl_HookOf.mono _ _ _ _)
      | (with_reducible exact impl_HookProduct.mono _ _)
      | (with_reducible exact impl_LegOf.mono _ _ _ _)
      | (with_reducible exact impl_StandardCount.mono _ _)
      | (with_reducible exact laws_factorial.mono _ _)
      | (with_reducible exact laws_sameLists.mono _ _ _)
      | (with_reducible exact spec_ArmOf.mono _ _ _ _)
      | (with_reducible exact spec_ColumnCount.mono _ _ _)
      | (with_reducible exact spec_Conjugate.mono _ _)
      | (with_reducible exact spec_ContentOf.mono _ _ _ _)
      | (with_reducible exact spec_Corners.mono _ _)
      | (with_reducible exact spec_DrawColumnCount.mono _ _)
      | (with_reducible exact spec_DrawHookOf.mono _ _)
      | (with_reducible exact spec_DrawStandardCount.mono _ _)
      | (with_reducible exact spec_HookLengths.mono _ _)
      | (with_reducible exact spec_HookOf.mono _ _ _ _)
      | (with_reducible exact spec_HookProduct.mono _ _)
      | (with_reducible exact spec_IsPartition.mono _ _)
      | (with_reducible exact spec_LegOf.mono _ _ _ _)
      | (with_reducible exact spec_RemoveBox.mono _ _ _)
      | (with_reducible exact spec_SizeOf.mono _ _)
      | (with_reducible exact spec_StandardCount.mono _ _)
      | (with_reducible exact LeO.refl _)
      | (with_reducible exact LeO.none _)
      | (with_reducible refine LeO.ite ?_ ?_)
      | (with_reducible refine LeO.bind ?_ (fun _ => ?_))
      | exact ih0 _ _ _
      | exact ih1 _ _ _ _ _
      | exact impl_ArmOf.mono _ _ _ _
      | exact impl_ColumnCount.mono _ _ _
      | exact impl_ContentOf.mono _ _ _ _
      | exact impl_HookLengths.mono _ _
      | exact impl_HookOf.mono _ _ _ _
      | exact impl_HookProduct.mono _ _
      | exact impl_LegOf.mono _ _ _ _
      | exact impl_StandardCount.mono _ _
      | exact laws_factorial.mono _ _
      | exact laws_sameLists.mono _ _ _
      | exact spec_ArmOf.mono _ _ _ _
      | exact spec_ColumnCount.mono _ _ _
      | exact spec_Conjugate.mono _ _
      | exact spec_ContentOf.mono _ _ _ _
      | exact spec_Corners.mono _ _
      | exact spec_DrawColumnCount.mono _ _
      | exact spec_DrawHookOf.mono _ _
      | exact spec_DrawStandardCount.mono _ _
      | exact spec_HookLengths.mono _ _
      | exact spec_HookOf.mono _ _ _ _
      | exact spec_HookProduct.mono _ _
      | exact spec_IsPartition.mono _ _
      | exact spec_LegOf.mono _ _ _ _
      | exact spec_RemoveBox.mono _ _ _
      | exact spec_SizeOf.mono _ _
      | exact spec_StandardCount.mono _ _
      | exact LeO.none _
      | refine LeO.ite ?_ ?_
      | refine LeO.bind ?_ (fun _ => ?_)
theorem laws_FnHooks.mono : ∀ a0 k, LeO (laws_FnHooks.f k a0) (laws_FnHooks.f (k + 1) a0) := by
  intro a0 k
  obtain ⟨ih0, ih1⟩ := laws_FnHooks.mono_l k
  unfold laws_FnHooks.f
  repeat' first
      | (with_reducible exact ih0 _ _ _)
      | (with_reducible exact ih1 _ _ _ _ _)
      | (with_reducible exact impl_ArmOf.mono _ _ _ _)
      | (with_reducible exact impl_ColumnCount.mono _ _ _)
      | (with_reducible exact impl_ContentOf.mono _ _ _ _)
      | (with_reducible exact impl_HookLengths.mono _ _)
      | (with_reducible exact impl_HookOf.mono _ _ _ _)
      | (with_reducible exact impl_HookProduct.mono _ _)
      | (with_reducible exact impl_LegOf.mono _ _ _ _)
      | (with_reducible exact impl_StandardCount.mono _ _)
      | (with_reducible exact laws_factorial.mono _ _)
      | (with_reducible exact laws_sameLists.mono _ _ _)
      | (with_reducible exact spec_ArmOf.mono _ _ _ _)
      | (with_reducible exact spec_ColumnCount.mono _ _ _)
      | (with_reducible exact spec_Conjugate.mono _ _)
      | (with_reducible exact spec_ContentOf.mono _ _ _ _)
      | (with_reducible exact spec_Corners.mono _ _)
      | (with_reducible exact spec_DrawColumnCount.mono _ _)
      | (with_reducible exact spec_DrawHookOf.mono _ _)
      | (with_reducible exact spec_DrawStandardCount.mono _ _)
      | (with_reducible exact spec_HookLengths.mono _ _)
      | (with_reducible exact spec_HookOf.mono _ _ _ _)
      | (with_reducible exact spec_HookProduct.mono _ _)
      | (with_reducible exact spec_IsPartition.mono _ _)
      | (with_reducible exact spec_LegOf.mono _ _ _ _)
      | (with_reducible exact spec_RemoveBox.mono _ _ _)
      | (with_reducible exact spec_SizeOf.mono _ _)
      | (with_reducible exact spec_StandardCount.mono _ _)
      | (with_reducible exact LeO.refl _)
      | (with_reducible exact LeO.none _)
      | (with_reducible refine LeO.ite ?_ ?_)
      | (with_reducible refine LeO.bind ?_ (fun _ => ?_))
      | exact ih0 _ _ _
      | exact ih1 _ _ _ _ _
      | exact impl_ArmOf.mono _ _ _ _
      | exact impl_ColumnCount.mono _ _ _
      | exact impl_ContentOf.mono _ _ _ _
      | exact impl_HookLengths.mono _ _
      | exact impl_HookOf.mono _ _ _ _
      | exact impl_HookProduct.mono _ _
      | exact impl_LegOf.mono _ _ _ _
      | exact impl_StandardCount.mono _ _
      | exact laws_factorial.mono _ _
      | exact laws_sameLists.mono _ _ _
      | exact spec_ArmOf.mono _ _ _ _
      | exact spec_ColumnCount.mono _ _ _
      | exact spec_Conjugate.mono _ _
      | exact spec_ContentOf.mono _ _ _ _
      | exact spec_Corners.mono _ _
      | exact spec_DrawColumnCount.mono _ _
      | exact spec_DrawHookOf.mono _ _
      | exact spec_DrawStandardCount.mono _ _
      | exact spec_HookLengths.mono _ _
      | exact spec_HookOf.mono _ _ _ _
      | exact spec_HookProduct.mono _ _
      | exact spec_IsPartition.mono _ _
      | exact spec_LegOf.mono _ _ _ _
      | exact spec_RemoveBox.mono _ _ _
      | exact spec_SizeOf.mono _ _
      | exact spec_StandardCount.mono _ _
      | exact LeO.none _
      | refine LeO.ite ?_ ?_
      | refine LeO.bind ?_ (fun _ => ?_)
set_option maxHeartbeats 8000000 in
set_option maxRecDepth 100000 in
theorem laws_FnHooks.calls (k : Nat) (A0 : Option Addr) (c0 : Nat) (l0 : List Int) (w : World) (hr0 : Kd.C (Kd.int .u8) w A0 l0.length l0) (hc0 : l0.length ≤ c0) (h : laws_FnHooks.f k l0 = some true) :
    Calls Try.prog 3 #[.slice A0 l0.length c0] w fun e w' => e = .returned (.bool true) ∧ Below w.heap.size w w' := by
  have HR0 := Aside0.mk hr0
  have HC0 := Aside0.mk hc0
  clear hr0 hc0
  have HB := Aside0.mk (Below.refl w.heap.size w)
  have H : ((laws_big.f l0).bind fun t371 => (if t371 = true then (some true) else ((spec_DrawHookOf.f k l0).bind fun bt372 => ((spec_DrawStandardCount.f k l0).bind fun t377 => ((impl_StandardCount.f k t377).bind fun t380 => ((impl_HookLengths.f k t377).bind fun t381 => ((spec_DrawColumnCount.f k l0).bind fun bt384 => ((impl_HookOf.f k bt372.1 bt372.2.1 bt372.2.2).bind fun t388 => ((spec_HookOf.f k bt372.1 bt372.2.1 bt372.2.2).bind fun t389 => (if t388 = t389 then ((impl_ArmOf.f k bt372.1 bt372.2.1 bt372.2.2).bind fun t390 => ((spec_ArmOf.f k bt372.1 bt372.2.1 bt372.2.2).bind fun t391 => (if t390 = t391 then ((impl_LegOf.f k bt372.1 bt372.2.1 bt372.2.2).bind fun t392 => ((spec_LegOf.f k bt372.1 bt372.2.1 bt372.2.2).bind fun t393 => (if t392 = t393 then ((impl_ContentOf.f k bt372.1 bt372.2.1 bt372.2.2).bind fun t394 => ((spec_ContentOf.f k bt372.1 bt372.2.1 bt372.2.2).bind fun t395 => (if t394 = t395 then ((spec_StandardCount.f k t377).bind fun t396 => (if t380 = t396 then ((spec_HookLengths.f k t377).bind fun t397 => ((laws_sameLists.f k t381 t397).bind fun t400 => (if t400 = true then ((impl_HookProduct.f k t377).bind fun t401 => ((spec_HookProduct.f k t377).bind fun t402 => (if t401 = t402 then ((impl_ColumnCount.f k bt384.1 bt384.2).bind fun t403 => ((spec_ColumnCount.f k bt384.1 bt384.2).bind fun t404 => (laws_FnHooks.j0 k t377 t380 (t403 != t404)))) else (laws_FnHooks.j0 k t377 t380 true)))) else (laws_FnHooks.j0 k t377 t380 true)))) else (laws_FnHooks.j0 k t377 t380 true))) else (laws_FnHooks.j0 k t377 t380 true)))) else (laws_FnHooks.j0 k t377 t380 true)))) else (laws_FnHooks.j0 k t377 t380 true)))) else (laws_FnHooks.j0 k t377 t380 true))))))))))) = some true := h
  clear h
  replace H := Option.bind_eq_some_iff.mp H
  obtain ⟨t371, A20, H⟩ := H
  replace H : (if t371 = true then (some true) else ((spec_DrawHookOf.f k l0).bind fun bt372 => ((spec_DrawStandardCount.f k l0).bind fun t377 => ((impl_StandardCount.f k t377).bind fun t380 => ((impl_HookLengths.f k t377).bind fun t381 => ((spec_DrawColumnCount.f k l0).bind fun bt384 => ((impl_HookOf.f k bt372.1 bt372.2.1 bt372.2.2).bind fun t388 => ((spec_HookOf.f k bt372.1 bt372.2.1 bt372.2.2).bind fun t389 => (if t388 = t389 then ((impl_ArmOf.f k bt372.1 bt372.2.1 bt372.2.2).bind fun t390 => ((spec_ArmOf.f k bt372.1 bt372.2.1 bt372.2.2).bind fun t391 => (if t390 = t391 then ((impl_LegOf.f k bt372.1 bt372.2.1 bt372.2.2).bind fun t392 => ((spec_LegOf.f k bt372.1 bt372.2.1 bt372.2.2).bind fun t393 => (if t392 = t393 then ((impl_ContentOf.f k bt372.1 bt372.2.1 bt372.2.2).bind fun t394 => ((spec_ContentOf.f k bt372.1 bt372.2.1 bt372.2.2).bind fun t395 => (if t394 = t395 then ((spec_StandardCount.f k t377).bind fun t396 => (if t380 = t396 then ((spec_HookLengths.f k t377).bind fun t397 => ((laws_sameLists.f k t381 t397).bind fun t400 => (if t400 = true then ((impl_HookProduct.f k t377).bind fun t401 => ((spec_HookProduct.f k t377).bind fun t402 => (if t401 = t402 then ((impl_ColumnCount.f k bt384.1 bt384.2).bind fun t403 => ((spec_ColumnCount.f k bt384.1 bt384.2).bind fun t404 => (laws_FnHooks.j0 k t377 t380 (t403 != t404)))) else (laws_FnHooks.j0 k t377 t380 true)))) else (laws_FnHooks.j0 k t377 t380 true)))) else (laws_FnHooks.j0 k t377 t380 true))) else (laws_FnHooks.j0 k t377 t380 true)))) else (laws_FnHooks.j0 k t377 t380 true)))) else (laws_FnHooks.j0 k t377 t380 true)))) else (laws_FnHooks.j0 k t377 t380 true)))))))))) = some true := H
  have A2 := Aside0.mk A20
  clear A20
  by_cases c3 : t371 = true
  · subst c3
    have H1 : (some true) = some true := rfl
    clear H
    have H := H1
    clear H1
    clear H
    go_enter Try.func3, Try.ntmps3
    go_wp2_with (first | ((with_reducible refine gate_callee (f := 4) rfl ?_); refine goesL_ (some 17) rfl rfl Try.func4 (by kernel_rfl) rfl #[.slice A0 l0.length c0] rfl (by (try simp only [List.map_toArray, List.map_cons, List.map_nil]); first | done | rfl | (simp only [List.length_drop, List.length_take]; rfl)) ?_; (with_reducible refine (laws_big.calls _ _ l0 true _ ?side1 ?side2 A2.out).mono ?_); (case side1 => repeat (first | exact HR0.out | (with_reducible refine Kd.C_alloc ?_ _) | (with_reducible refine Kd.C_drewN ?_ _) | (with_reducible refine Kd.C_drew ?_))); (case side2 => exact HC0.out); rintro e w' ⟨rfl, ⟨nd, rfl⟩⟩; refine ⟨_, rfl, ?_⟩) | (go_at_call 4; (with_reducible refine (laws_big.calls _ _ l0 true _ ?side1 ?side2 A2.out).mono ?_); (case side1 => repeat (first | exact HR0.out | (with_reducible refine Kd.C_alloc ?_ _) | (with_reducible refine Kd.C_drewN ?_ _) | (with_reducible refine Kd.C_drew ?_))); (case side2 => exact HC0.out); rintro e w' ⟨rfl, ⟨nd, rfl⟩⟩))
    go_ret
    exact ⟨by first | rfl | (simp [errW_none, errW_some] <;> rfl) | (simp [*, errW_none, errW_some] <;> rfl), by repeat (first | (with_reducible first | exact HB.out | apply below_alloc | apply pw_below_drewN | apply below_drew1) | exact HB.out)⟩
  · replace c3 := Bool.eq_false_iff.mpr c3
    subst c3
    have H1 : ((spec_DrawHookOf.f k l0).bind fun bt372 => ((spec_DrawStandardCount.f k l0).bind fun t377 => ((impl_StandardCount.f k t377).bind fun t380 => ((impl_HookLengths.f k t377).bind fun t381 => ((spec_DrawColumnCount.f k l0).bind fun bt384 => ((impl_HookOf.f k bt372.1 bt372.2.1 bt372.2.2).bind fun t388 => ((spec_HookOf.f k bt372.1 bt372.2.1 bt372.2.2).bind fun t389 => (if t388 = t389 then ((impl_ArmOf.f k bt372.1 bt372.2.1 bt372.2.2).bind fun t390 => ((spec_ArmOf.f k bt372.1 bt372.2.1 bt372.2.2).bind fun t391 => (if t390 = t391 then ((impl_LegOf.f k bt372.1 bt372.2.1 bt372.2.2).bind fun t392 => ((spec_LegOf.f k bt372.1 bt372.2.1 bt372.2.2).bind fun t393 => (if t392 = t393 then ((impl_ContentOf.f k bt372.1 bt372.2.1 bt372.2.2).bind fun t394 => ((spec_ContentOf.f k bt372.1 bt372.2.1 bt372.2.2).bind fun t395 => (if t394 = t395 then ((spec_StandardCount.f k t377).bind fun t396 => (if t380 = t396 then ((spec_HookLengths.f k t377).bind fun t397 => ((laws_sameLists.f k t381 t397).bind fun t400 => (if t400 = true then ((impl_HookProduct.f k t377).bind fun t401 => ((spec_HookProduct.f k t377).bind fun t402 => (if t401 = t402 then ((impl_ColumnCount.f k bt384.1 bt384.2).bind fun t403 => ((spec_ColumnCount.f k bt384.1 bt384.2).bind fun t404 => (laws_FnHooks.j0 k t377 t380 (t403 != t404)))) else (laws_FnHooks.j0 k t377 t380 true)))) else (laws_FnHooks.j0 k t377 t380 true)))) else (laws_FnHooks.j0 k t377 t380 true))) else (laws_FnHooks.j0 k t377 t380 true)))) else (laws_FnHooks.j0 k t377 t380 true)))) else (laws_FnHooks.j0 k t377 t380 true)))) else (laws_FnHooks.j0 k t377 t380 true))))))))) = some true := by rw [if_neg (show ¬ (false = true) by decide)] at H; exact H
    clear H
    have H := H1
    clear H1
    replace H := Option.bind_eq_some_iff.mp H
    obtain ⟨⟨t372, t373, t374⟩, A40, H⟩ := H
    replace H : ((spec_DrawStandardCount.f k l0).bind fun t377 => ((impl_StandardCount.f k t377).bind fun t380 => ((impl_HookLengths.f k t377).bind fun t381 => ((spec_DrawColumnCount.f k l0).bind fun bt384 => ((impl_HookOf.f k t372 t373 t374).bind fun t388 => ((spec_HookOf.f k t372 t373 t374).bind fun t389 => (if t388 = t389 then ((impl_ArmOf.f k t372 t373 t374).bind fun t390 => ((spec_ArmOf.f k t372 t373 t374).bind fun t391 => (if t390 = t391 then ((impl_LegOf.f k t372 t373 t374).bind fun t392 => ((spec_LegOf.f k t372 t373 t374).bind fun t393 => (if t392 = t393 then ((impl_ContentOf.f k t372 t373 t374).bind fun t394 => ((spec_ContentOf.f k t372 t373 t374).bind fun t395 => (if t394 = t395 then ((spec_StandardCount.f k t377).bind fun t396 => (if t380 = t396 then ((spec_HookLengths.f k t377).bind fun t397 => ((laws_sameLists.f k t381 t397).bind fun t400 => (if t400 = true then ((impl_HookProduct.f k t377).bind fun t401 => ((spec_HookProduct.f k t377).bind fun t402 => (if t401 = t402 then ((impl_ColumnCount.f k bt384.1 bt384.2).bind fun t403 => ((spec_ColumnCount.f k bt384.1 bt384.2).bind fun t404 => (laws_FnHooks.j0 k t377 t380 (t403 != t404)))) else (laws_FnHooks.j0 k t377 t380 true)))) else (laws_FnHooks.j0 k t377 t380 true)))) else (laws_FnHooks.j0 k t377 t380 true))) else (laws_FnHooks.j0 k t377 t380 true)))) else (laws_FnHooks.j0 k t377 t380 true)))) else (laws_FnHooks.j0 k t377 t380 true)))) else (laws_FnHooks.j0 k t377 t380 true)))))))) = some true := H
    have A4 := Aside0.mk A40
    clear A40
    replace H := Option.bind_eq_some_iff.mp H
    obtain ⟨t377, A50, H⟩ := H
    replace H : ((impl_StandardCount.f k t377).bind fun t380 => ((impl_HookLengths.f k t377).bind fun t381 => ((spec_DrawColumnCount.f k l0).bind fun bt384 => ((impl_HookOf.f k t372 t373 t374).bind fun t388 => ((spec_HookOf.f k t372 t373 t374).bind fun t389 => (if t388 = t389 then ((impl_ArmOf.f k t372 t373 t374).bind fun t390 => ((spec_ArmOf.f k t372 t373 t374).bind fun t391 => (if t390 = t391 then ((impl_LegOf.f k t372 t373 t374).bind fun t392 => ((spec_LegOf.f k t372 t373 t374).bind fun t393 => (if t392 = t393 then ((impl_ContentOf.f k t372 t373 t374).bind fun t394 => ((spec_ContentOf.f k t372 t373 t374).bind fun t395 => (if t394 = t395 then ((spec_StandardCount.f k t377).bind fun t396 => (if t380 = t396 then ((spec_HookLengths.f k t377).bind fun t397 => ((laws_sameLists.f k t381 t397).bind fun t400 => (if t400 = true then ((impl_HookProduct.f k t377).bind fun t401 => ((spec_HookProduct.f k t377).bind fun t402 => (if t401 = t402 then ((impl_ColumnCount.f k bt384.1 bt384.2).bind fun t403 => ((spec_ColumnCount.f k bt384.1 bt384.2).bind fun t404 => (laws_FnHooks.j0 k t377 t380 (t403 != t404)))) else (laws_FnHooks.j0 k t377 t380 true)))) else (laws_FnHooks.j0 k t377 t380 true)))) else (laws_FnHooks.j0 k t377 t380 true))) else (laws_FnHooks.j0 k t377 t380 true)))) else (laws_FnHooks.j0 k t377 t380 true)))) else (laws_FnHooks.j0 k t377 t380 true)))) else (laws_FnHooks.j0 k t377 t380 true))))))) = some true := H
    have A5 := Aside0.mk A50
    clear A50
    replace H := Option.bind_eq_some_iff.mp H
    obtain ⟨t380, A60, H⟩ := H
    replace H : ((impl_HookLengths.f k t377).bind fun t381 => ((spec_DrawColumnCount.f k l0).bind fun bt384 => ((impl_HookOf.f k t372 t373 t374).bind fun t388 => ((spec_HookOf.f k t372 t373 t374).bind fun t389 => (if t388 = t389 then ((impl_ArmOf.f k t372 t373 t374).bind fun t390 => ((spec_ArmOf.f k t372 t373 t374).bind fun t391 => (if t390 = t391 then ((impl_LegOf.f k t372 t373 t374).bind fun t392 => ((spec_LegOf.f k t372 t373 t374).bind fun t393 => (if t392 = t393 then ((impl_ContentOf.f k t372 t373 t374).bind fun t394 => ((spec_ContentOf.f k t372 t373 t374).bind fun t395 => (if t394 = t395 then ((spec_StandardCount.f k t377).bind fun t396 => (if t380 = t396 then ((spec_HookLengths.f k t377).bind fun t397 => ((laws_sameLists.f k t381 t397).bind fun t400 => (if t400 = true then ((impl_HookProduct.f k t377).bind fun t401 => ((spec_HookProduct.f k t377).bind fun t402 => (if t401 = t402 then ((impl_ColumnCount.f k bt384.1 bt384.2).bind fun t403 => ((spec_ColumnCount.f k bt384.1 bt384.2).bind fun t404 => (laws_FnHooks.j0 k t377 t380 (t403 != t404)))) else (laws_FnHooks.j0 k t377 t380 true)))) else (laws_FnHooks.j0 k t377 t380 true)))) else (laws_FnHooks.j0 k t377 t380 true))) else (laws_FnHooks.j0 k t377 t380 true)))) else (laws_FnHooks.j0 k t377 t380 true)))) else (laws_FnHooks.j0 k t377 t380 true)))) else (laws_FnHooks.j0 k t377 t380 true)))))) = some true := H
    have A6 := Aside0.mk A60
    clear A60
    replace H := Option.bind_eq_some_iff.mp H
    obtain ⟨t381, A70, H⟩ := H
    replace H : ((spec_DrawColumnCount.f k l0).bind fun bt384 => ((impl_HookOf.f k t372 t373 t374).bind fun t388 => ((spec_HookOf.f k t372 t373 t374).bind fun t389 => (if t388 = t389 then ((impl_ArmOf.f k t372 t373 t374).bind fun t390 => ((spec_ArmOf.f k t372 t373 t374).bind fun t391 => (if t390 = t391 then ((impl_LegOf.f k t372 t373 t374).bind fun t392 => ((spec_LegOf.f k t372 t373 t374).bind fun t393 => (if t392 = t393 then ((impl_ContentOf.f k t372 t373 t374).bind fun t394 => ((spec_ContentOf.f k t372 t373 t374).bind fun t395 => (if t394 = t395 then ((spec_StandardCount.f k t377).bind fun t396 => (if t380 = t396 then ((spec_HookLengths.f k t377).bind fun t397 => ((laws_sameLists.f k t381 t397).bind fun t400 => (if t400 = true then ((impl_HookProduct.f k t377).bind fun t401 => ((spec_HookProduct.f k t377).bind fun t402 => (if t401 = t402 then ((impl_ColumnCount.f k bt384.1 bt384.2).bind fun t403 => ((spec_ColumnCount.f k bt384.1 bt384.2).bind fun t404 => (laws_FnHooks.j0 k t377 t380 (t403 != t404)))) else (laws_FnHooks.j0 k t377 t380 true)))) else (laws_FnHooks.j0 k t377 t380 true)))) else (laws_FnHooks.j0 k t377 t380 true))) else (laws_FnHooks.j0 k t377 t380 true)))) else (laws_FnHooks.j0 k t377 t380 true)))) else (laws_FnHooks.j0 k t377 t380 true)))) else (laws_FnHooks.j0 k t377 t380 true))))) = some true := H
    have A7 := Aside0.mk A70
    clear A70
    replace H := Option.bind_eq_some_iff.mp H
    obtain ⟨⟨t384, t385⟩, A80, H⟩ := H
    replace H : ((impl_HookOf.f k t372 t373 t374).bind fun t388 => ((spec_HookOf.f k t372 t373 t374).bind fun t389 => (if t388 = t389 then ((impl_ArmOf.f k t372 t373 t374).bind fun t390 => ((spec_ArmOf.f k t372 t373 t374).bind fun t391 => (if t390 = t391 then ((impl_LegOf.f k t372 t373 t374).bind fun t392 => ((spec_LegOf.f k t372 t373 t374).bind fun t393 => (if t392 = t393 then ((impl_ContentOf.f k t372 t373 t374).bind fun t394 => ((spec_ContentOf.f k t372 t373 t374).bind fun t395 => (if t394 = t395 then ((spec_StandardCount.f k t377).bind fun t396 => (if t380 = t396 then ((spec_HookLengths.f k t377).bind fun t397 => ((laws_sameLists.f k t381 t397).bind fun t400 => (if t400 = true then ((impl_HookProduct.f k t377).bind fun t401 => ((spec_HookProduct.f k t377).bind fun t402 => (if t401 = t402 then ((impl_ColumnCount.f k t384 t385).bind fun t403 => ((spec_ColumnCount.f k t384 t385).bind fun t404 => (laws_FnHooks.j0 k t377 t380 (t403 != t404)))) else (laws_FnHooks.j0 k t377 t380 true)))) else (laws_FnHooks.j0 k t377 t380 true)))) else (laws_FnHooks.j0 k t377 t380 true))) else (laws_FnHooks.j0 k t377 t380 true)))) else (laws_FnHooks.j0 k t377 t380 true)))) else (laws_FnHooks.j0 k t377 t380 true)))) else (laws_FnHooks.j0 k t377 t380 true)))) = some true := H
    have A8 := Aside0.mk A80
    clear A80
    have HC9 := Aside0.mk H
    clear H
    go_enter Try.func3, Try.ntmps3
    go_upto_region 8 with (first | ((with_reducible refine gate_callee (f := 4) rfl ?_); refine goesL_ (some 17) rfl rfl Try.func4 (by kernel_rfl) rfl #[.slice A0 l0.length c0] rfl (by (try simp only [List.map_toArray, List.map_cons, List.map_nil]); first | done | rfl | (simp only [List.length_drop, List.length_take]; rfl)) ?_; (with_reducible refine (laws_big.calls _ _ l0 false _ ?side1 ?side2 A2.out).mono ?_); (case side1 => repeat (first | exact HR0.out | (with_reducible refine Kd.C_alloc ?_ _) | (with_reducible refine Kd.C_drewN ?_ _) | (with_reducible refine Kd.C_drew ?_))); (case side2 => exact HC0.out); rintro e w' ⟨rfl, ⟨nd, rfl⟩⟩; refine ⟨_, rfl, ?_⟩) | (go_at_call 4; (with_reducible refine (laws_big.calls _ _ l0 false _ ?side1 ?side2 A2.out).mono ?_); (case side1 => repeat (first | exact HR0.out | (with_reducible refine Kd.C_alloc ?_ _) | (with_reducible refine Kd.C_drewN ?_ _) | (with_reducible refine Kd.C_drew ?_))); (case side2 => exact HC0.out); rintro e w' ⟨rfl, ⟨nd, rfl⟩⟩) | ((with_reducible refine gate_callee (f := 5) rfl ?_); refine goesL_ (some 20) rfl rfl Try.func5 (by kernel_rfl) rfl #[.slice A0 l0.length c0] rfl (by (try simp only [List.map_toArray, List.map_cons, List.map_nil]); first | done | rfl | (simp only [List.length_drop, List.length_take]; rfl)) ?_; (with_reducible refine (spec_DrawHookOf.calls k _ _ l0 t372 t373 t374 _ ?side1 ?side2 A4.out).mono ?_); (case side1 => repeat (first | exact HR0.out | (with_reducible refine Kd.C_alloc ?_ _) | (with_reducible refine Kd.C_drewN ?_ _) | (with_reducible refine Kd.C_drew ?_))); (case side2 => exact HC0.out); rintro e w10 ⟨v375, rfl, ho0, hb⟩; refine ⟨_, rfl, ?_⟩; have n0_ := Aside0.mk (Kd.R_lower ho0 (below_size (by repeat (first | (with_reducible first | exact HB.out | apply below_alloc | apply pw_below_drewN | apply below_drew1) | exact HB.out)))); have n1_ := Aside0.mk (below_step (by repeat (first | (with_reducible first | exact HB.out | apply below_alloc | apply pw_below_drewN | apply below_drew1) | exact HB.out)) hb); clear HB; have HO376 := n0_; have HB := n1_; clear n0_ n1_; (try clear hb); (try clear hb2); (try clear hk); (try clear hi); (try clear ho0)) | ((with_reducible refine gate_callee (f := 6) rfl ?_); refine goesL_ (some 25) rfl rfl Try.func6 (by kernel_rfl) rfl #[.slice A0 l0.length c0] rfl (by (try simp only [List.map_toArray, List.map_cons, List.map_nil]); first | done | rfl | (simp only [List.length_drop, List.length_take]; rfl)) ?_; (with_reducible refine (spec_DrawStandardCount.calls k _ _ l0 t377 _ ?side1 ?side2 A5.out).mono ?_); (case side1 => repeat (first | exact (Kd.C_below HR0.out HB.out) | (with_reducible refine Kd.C_alloc ?_ _) | (with_reducible refine Kd.C_drewN ?_ _) | (with_reducible refine Kd.C_drew ?_))); (case side2 => exact HC0.out); rintro e w11 ⟨v378, rfl, ho0, hb⟩; refine ⟨_, rfl, ?_⟩; have n0_ := Aside0.mk (Kd.R_elder' (by (with_reducible repeat (first | apply Kd.R_alloc | apply Kd.R_drewN | apply Kd.R_drew)); exact HO376.out) (Kd.R_base ho0) hb); have n1_ := Aside0.mk (Kd.R_lower (Kd.R_new' ho0 (Kd.R_lt (by (with_reducible repeat (first | apply Kd.R_alloc | apply Kd.R_drewN | apply Kd.R_drew)); exact HO376.out))) (below_size (by repeat (first | (with_reducible first | exact HB.out | apply below_alloc | apply pw_below_drewN | apply below_drew1) | exact HB.out)))); have n2_ := Aside0.mk (below_step (by repeat (first | (with_reducible first | exact HB.out | apply below_alloc | apply pw_below_drewN | apply below_drew1) | exact HB.out)) hb); clear HO376; clear HB; have HO376 := n0_; have HO379 := n1_; have HB := n2_; clear n0_ n1_ n2_; (try clear hb); (try clear hb2); (try clear hk); (try clear hi); (try clear ho0); obtain ⟨Ao12, co12, eo12⟩ := Kd.R_slice HO379.out; subst eo12) | ((with_reducible refine gate_callee (f := 7) rfl ?_); refine goesL_ (some 27) rfl rfl Try.func7 (by kernel_rfl) rfl #[.slice Ao12 t377.length co12] rfl (by (try simp only [List.map_toArray, List.map_cons, List.map_nil]); first | done | rfl | (simp only [List.length_drop, List.length_take]; rfl)) ?_; (with_reducible refine (impl_StandardCount.calls k _ _ t377 t380 _ ?side1 ?side2 A6.out).mono ?_); (case side1 => repeat (first | exact (Kd.R_reads' HO379.out).2.2 | (with_reducible refine Kd.C_alloc ?_ _) | (with_reducible refine Kd.C_drewN ?_ _) | (with_reducible refine Kd.C_drew ?_))); (case side2 => exact (Kd.R_reads' HO379.out).2.1); rintro e w13 ⟨rfl, hb⟩; refine ⟨_, rfl, ?_⟩; have n0_ := Aside0.mk (Kd.R_below (by (with_reducible repeat (first | apply Kd.R_alloc | apply Kd.R_drewN | apply Kd.R_drew)); exact HO376.out) hb); have n1_ := Aside0.mk (Kd.R_below (by (with_reducible repeat (first | apply Kd.R_alloc | apply Kd.R_drewN | apply Kd.R_drew)); exact HO379.out) hb); have n2_ := Aside0.mk (below_step (by repeat (first | (with_reducible first | exact HB.out | apply below_alloc | apply pw_below_drewN | apply below_drew1) | exact HB.out)) hb); clear HO376; clear HO379; clear HB; have HO376 := n0_; have HO379 := n1_; have HB := n2_; clear n0_ n1_ n2_; (try clear hb); (try clear hb2); (try clear hk); (try clear hi)) | ((with_reducible refine gate_callee (f := 8) rfl ?_); refine goesL_ (some 29) rfl rfl Try.func8 (by kernel_rfl) rfl #[.slice Ao12 t377.length co12] rfl (by (try simp only [List.map_toArray, List.map_cons, List.map_nil]); first | done | rfl | (simp only [List.length_drop, List.length_take]; rfl)) ?_; (with_reducible refine (impl_HookLengths.calls k _ _ t377 t381 _ ?side1 ?side2 A7.out).mono ?_); (case side1 => repeat (first | exact (Kd.R_reads' HO379.out).2.2 | (with_reducible refine Kd.C_alloc ?_ _) | (with_reducible refine Kd.C_drewN ?_ _) | (with_reducible refine Kd.C_drew ?_))); (case side2 => exact (Kd.R_reads' HO379.out).2.1); rintro e w14 ⟨v382, rfl, ho0, hb⟩; refine ⟨_, rfl, ?_⟩; have n0_ := Aside0.mk (Kd.R_below (by (with_reducible repeat (first | apply Kd.R_alloc | apply Kd.R_drewN | apply Kd.R_drew)); exact HO376.out) hb); have n1_ := Aside0.mk (Kd.R_below (by (with_reducible repeat (first | apply Kd.R_alloc | apply Kd.R_drewN | apply Kd.R_drew)); exact HO379.out) hb); have n2_ := Aside0.mk (Kd.S_lower (Kd.S_new' (Kd.S_new' ho0 (Kd.R_lt (by (with_reducible repeat (first | apply Kd.R_alloc | apply Kd.R_drewN | apply Kd.R_drew)); exact HO376.out))) (Kd.R_lt (by (with_reducible repeat (first | apply Kd.R_alloc | apply Kd.R_drewN | apply Kd.R_drew)); exact HO379.out))) (below_size (by repeat (first | (with_reducible first | exact HB.out | apply below_alloc | apply pw_below_drewN | apply below_drew1) | exact HB.out)))); have n3_ := Aside0.mk (below_step (by repeat (first | (with_reducible first | exact HB.out | apply below_alloc | apply pw_below_drewN | apply below_drew1) | exact HB.out)) hb); clear HO376; clear HO379; clear HB; have HO376 := n0_; have HO379 := n1_; have HO383 := n2_; have HB := n3_; clear n0_ n1_ n2_ n3_; (try clear hb); (try clear hb2); (try clear hk); (try clear hi); (try clear ho0)) | ((with_reducible refine gate_callee (f := 9) rfl ?_); refine goesL_ (some 32) rfl rfl Try.func9 (by kernel_rfl) rfl #[.slice A0 l0.length c0] rfl (by (try simp only [List.map_toArray, List.map_cons, List.map_nil]); first | done | rfl | (simp only [List.length_drop, List.length_take]; rfl)) ?_; (with_reducible refine (spec_DrawColumnCount.calls k _ _ l0 t384 t385 _ ?side1 ?side2 A8.out).mono ?_); (case side1 => repeat (first | exact (Kd.C_below HR0.out HB.out) | (with_reducible refine Kd.C_alloc ?_ _) | (with_reducible refine Kd.C_drewN ?_ _) | (with_reducible refine Kd.C_drew ?_))); (case side2 => exact HC0.out); rintro e w15 ⟨v386, rfl, ho0, hb⟩; refine ⟨_, rfl, ?_⟩; have n0_ := Aside0.mk (Kd.R_elder' (by (with_reducible repeat (first | apply Kd.R_alloc | apply Kd.R_drewN | apply Kd.R_drew)); exact HO376.out) (Kd.R_base ho0) hb); have n1_ := Aside0.mk (Kd.R_elder' (by (with_reducible repeat (first | apply Kd.R_alloc | apply Kd.R_drewN | apply Kd.R_drew)); exact HO379.out) (Kd.R_base ho0) hb); have n2_ := Aside0.mk (Kd.S_elder' (by (with_reducible repeat (first | apply Kd.S_alloc | apply Kd.S_drewN | apply Kd.S_drew)); exact HO383.out) (Kd.R_base ho0) hb); have n3_ := Aside0.mk (Kd.R_lower (Kd.R_new' (Kd.R_new' ho0 (Kd.R_lt (by (with_reducible repeat (first | apply Kd.R_alloc | apply Kd.R_drewN | apply Kd.R_drew)); exact HO376.out))) (Kd.R_lt (by (with_reducible repeat (first | apply Kd.R_alloc | apply Kd.R_drewN | apply Kd.R_drew)); exact HO379.out))) (below_size (by repeat (first | (with_reducible first | exact HB.out | apply below_alloc | apply pw_below_drewN | apply below_drew1) | exact HB.out)))); have n4_ := Aside0.mk (below_step (by repeat (first | (with_reducible first | exact HB.out | apply below_alloc | apply pw_below_drewN | apply below_drew1) | exact HB.out)) hb); clear HO376; clear HO379; clear HO383; clear HB; have HO376 := n0_; have HO379 := n1_; have HO383 := n2_; have HO387 := n3_; have HB := n4_; clear n0_ n1_ n2_ n3_ n4_; (try clear hb); (try clear hb2); (try clear hk); (try clear hi); (try clear ho0)))
    (try simp only [Act.put, List.setIfInBounds_toArray, List.set_cons_zero, List.set_cons_succ])
    go_cut [105] (fun v105 wc => ∃ (kq : Nat) (x105_8 : Bool), v105 = .bool x105_8 ∧ Aside0 (laws_FnHooks.j0 kq t377 t380 x105_8 = some true) ∧ Aside0 (kq ≤ k) ∧ Aside0 (Kd.R (Kd.int .i64) 3 wc w.heap.size (fun _ => True) (.slice Ao12 t377.length co12) t377) ∧ Aside0 (Below w.heap.size w wc))
    case first =>
      have H := HC9.out
      clear HC9
      replace H := Option.bind_eq_some_iff.mp H
      obtain ⟨t388, A160, H⟩ := H
      replace H : ((spec_HookOf.f k t372 t373 t374).bind fun t389 => (if t388 = t389 then ((impl_ArmOf.f k t372 t373 t374).bind fun t390 => ((spec_ArmOf.f k t372 t373 t374).bind fun t391 => (if t390 = t391 then ((impl_LegOf.f k t372 t373 t374).bind fun t392 => ((spec_LegOf.f k t372 t373 t374).bind fun t393 => (if t392 = t393 then ((impl_ContentOf.f k t372 t373 t374).bind fun t394 => ((spec_ContentOf.f k t372 t373 t374).bind fun t395 => (if t394 = t395 then ((spec_StandardCount.f k t377).bind fun t396 => (if t380 = t396 then ((spec_HookLengths.f k t377).bind fun t397 => ((laws_sameLists.f k t381 t397).bind fun t400 => (if t400 = true then ((impl_HookProduct.f k t377).bind fun t401 => ((spec_HookProduct.f k t377).bind fun t402 => (if t401 = t402 then ((impl_ColumnCount.f k t384 t385).bind fun t403 => ((spec_ColumnCount.f k t384 t385).bind fun t404 => (laws_FnHooks.j0 k t377 t380 (t403 != t404)))) else (laws_FnHooks.j0 k t377 t380 true)))) else (laws_FnHooks.j0 k t377 t380 true)))) else (laws_FnHooks.j0 k t377 t380 true))) else (laws_FnHooks.j0 k t377 t380 true)))) else (laws_FnHooks.j0 k t377 t380 true)))) else (laws_FnHooks.j0 k t377 t380 true)))) else (laws_FnHooks.j0 k t377 t380 true))) = some true := H
      have A16 := Aside0.mk A160
      clear A160
      replace H := Option.bind_eq_some_iff.mp H
      obtain ⟨t389, A170, H⟩ := H
      replace H : (if t388 = t389 then ((impl_ArmOf.f k t372 t373 t374).bind fun t390 => ((spec_ArmOf.f k t372 t373 t374).bind fun t391 => (if t390 = t391 then ((impl_LegOf.f k t372 t373 t374).bind fun t392 => ((spec_LegOf.f k t372 t373 t374).bind fun t393 => (if t392 = t393 then ((impl_ContentOf.f k t372 t373 t374).bind fun t394 => ((spec_ContentOf.f k t372 t373 t374).bind fun t395 => (if t394 = t395 then ((spec_StandardCount.f k t377).bind fun t396 => (if t380 = t396 then ((spec_HookLengths.f k t377).bind fun t397 => ((laws_sameLists.f k t381 t397).bind fun t400 => (if t400 = true then ((impl_HookProduct.f k t377).bind fun t401 => ((spec_HookProduct.f k t377).bind fun t402 => (if t401 = t402 then ((impl_ColumnCount.f k t384 t385).bind fun t403 => ((spec_ColumnCount.f k t384 t385).bind fun t404 => (laws_FnHooks.j0 k t377 t380 (t403 != t404)))) else (laws_FnHooks.j0 k t377 t380 true)))) else (laws_FnHooks.j0 k t377 t380 true)))) else (laws_FnHooks.j0 k t377 t380 true))) else (laws_FnHooks.j0 k t377 t380 true)))) else (laws_FnHooks.j0 k t377 t380 true)))) else (laws_FnHooks.j0 k t377 t380 true)))) else (laws_FnHooks.j0 k t377 t380 true)) = some true := H
      have A17 := Aside0.mk A170
      clear A170
      by_cases c18 : t388 = t389
      · rw [if_pos c18] at H
        have c18b0 : (t388 == t389) = true := beq_iff_eq.mpr c18
        have c18b1 : (t388 != t389) = false := bne_eq_false_iff_eq.mpr c18
        clear c18
        (first | rw [c18b0] | (simp only [i64_w, i32_w]; rw [c18b0]) | skip)
        replace H := Option.bind_eq_some_iff.mp H
        obtain ⟨t390, A190, H⟩ := H
        replace H : ((spec_ArmOf.f k t372 t373 t374).bind fun t391 => (if t390 = t391 then ((impl_LegOf.f k t372 t373 t374).bind fun t392 => ((spec_LegOf.f k t372 t373 t374).bind fun t393 => (if t392 = t393 then ((impl_ContentOf.f k t372 t373 t374).bind fun t394 => ((spec_ContentOf.f k t372 t373 t374).bind fun t395 => (if t394 = t395 then ((spec_StandardCount.f k t377).bind fun t396 => (if t380 = t396 then ((spec_HookLengths.f k t377).bind fun t397 => ((laws_sameLists.f k t381 t397).bind fun t400 => (if t400 = true then ((impl_HookProduct.f k t377).bind fun t401 => ((spec_HookProduct.f k t377).bind fun t402 => (if t401 = t402 then ((impl_ColumnCount.f k t384 t385).bind fun t403 => ((spec_ColumnCount.f k t384 t385).bind fun t404 => (laws_FnHooks.j0 k t377 t380 (t403 != t404)))) else (laws_FnHooks.j0 k t377 t380 true)))) else (laws_FnHooks.j0 k t377 t380 true)))) else (laws_FnHooks.j0 k t377 t380 true))) else (laws_FnHooks.j0 k t377 t380 true)))) else (laws_FnHooks.j0 k t377 t380 true)))) else (laws_FnHooks.j0 k t377 t380 true))) = some true := H
        have A19 := Aside0.mk A190
        clear A190
        replace H := Option.bind_eq_some_iff.mp H
        obtain ⟨t391, A200, H⟩ := H
        replace H : (if t390 = t391 then ((impl_LegOf.f k t372 t373 t374).bind fun t392 => ((spec_LegOf.f k t372 t373 t374).bind fun t393 => (if t392 = t393 then ((impl_ContentOf.f k t372 t373 t374).bind fun t394 => ((spec_ContentOf.f k t372 t373 t374).bind fun t395 => (if t394 = t395 then ((spec_StandardCount.f k t377).bind fun t396 => (if t380 = t396 then ((spec_HookLengths.f k t377).bind fun t397 => ((laws_sameLists.f k t381 t397).bind fun t400 => (if t400 = true then ((impl_HookProduct.f k t377).bind fun t401 => ((spec_HookProduct.f k t377).bind fun t402 => (if t401 = t402 then ((impl_ColumnCount.f k t384 t385).bind fun t403 => ((spec_ColumnCount.f k t384 t385).bind fun t404 => (laws_FnHooks.j0 k t377 t380 (t403 != t404)))) else (laws_FnHooks.j0 k t377 t380 true)))) else (laws_FnHooks.j0 k t377 t380 true)))) else (laws_FnHooks.j0 k t377 t380 true))) else (laws_FnHooks.j0 k t377 t380 true)))) else (laws_FnHooks.j0 k t377 t380 true)))) else (laws_FnHooks.j0 k t377 t380 true)) = some true := H
        have A20 := Aside0.mk A200
        clear A200
        by_cases c21 : t390 = t391
        · rw [if_pos c21] at H
          have c21b0 : (t390 == t391) = true := beq_iff_eq.mpr c21
          have c21b1 : (t390 != t391) = false := bne_eq_false_iff_eq.mpr c21
          clear c21
          replace H := Option.bind_eq_some_iff.mp H
          obtain ⟨t392, A220, H⟩ := H
          replace H : ((spec_LegOf.f k t372 t373 t374).bind fun t393 => (if t392 = t393 then ((impl_ContentOf.f k t372 t373 t374).bind fun t394 => ((spec_ContentOf.f k t372 t373 t374).bind fun t395 => (if t394 = t395 then ((spec_StandardCount.f k t377).bind fun t396 => (if t380 = t396 then ((spec_HookLengths.f k t377).bind fun t397 => ((laws_sameLists.f k t381 t397).bind fun t400 => (if t400 = true then ((impl_HookProduct.f k t377).bind fun t401 => ((spec_HookProduct.f k t377).bind fun t402 => (if t401 = t402 then ((impl_ColumnCount.f k t384 t385).bind fun t403 => ((spec_ColumnCount.f k t384 t385).bind fun t404 => (laws_FnHooks.j0 k t377 t380 (t403 != t404)))) else (laws_FnHooks.j0 k t377 t380 true)))) else (laws_FnHooks.j0 k t377 t380 true)))) else (laws_FnHooks.j0 k t377 t380 true))) else (laws_FnHooks.j0 k t377 t380 true)))) else (laws_FnHooks.j0 k t377 t380 true))) = some true := H
          have A22 := Aside0.mk A220
          clear A220
          replace H := Option.bind_eq_some_iff.mp H
          obtain ⟨t393, A230, H⟩ := H
          replace H : (if t392 = t393 then ((impl_ContentOf.f k t372 t373 t374).bind fun t394 => ((spec_ContentOf.f k t372 t373 t374).bind fun t395 => (if t394 = t395 then ((spec_StandardCount.f k t377).bind fun t396 => (if t380 = t396 then ((spec_HookLengths.f k t377).bind fun t397 => ((laws_sameLists.f k t381 t397).bind fun t400 => (if t400 = true then ((impl_HookProduct.f k t377).bind fun t401 => ((spec_HookProduct.f k t377).bind fun t402 => (if t401 = t402 then ((impl_ColumnCount.f k t384 t385).bind fun t403 => ((spec_ColumnCount.f k t384 t385).bind fun t404 => (laws_FnHooks.j0 k t377 t380 (t403 != t404)))) else (laws_FnHooks.j0 k t377 t380 true)))) else (laws_FnHooks.j0 k t377 t380 true)))) else (laws_FnHooks.j0 k t377 t380 true))) else (laws_FnHooks.j0 k t377 t380 true)))) else (laws_FnHooks.j0 k t377 t380 true)) = some true := H
          have A23 := Aside0.mk A230
          clear A230
          by_cases c24 : t392 = t393
          · rw [if_pos c24] at H
            have c24b0 : (t392 == t393) = true := beq_iff_eq.mpr c24
            have c24b1 : (t392 != t393) = false := bne_eq_false_iff_eq.mpr c24
            clear c24
            replace H := Option.bind_eq_some_iff.mp H
            obtain ⟨t394, A250, H⟩ := H
            replace H : ((spec_ContentOf.f k t372 t373 t374).bind fun t395 => (if t394 = t395 then ((spec_StandardCount.f k t377).bind fun t396 => (if t380 = t396 then ((spec_HookLengths.f k t377).bind fun t397 => ((laws_sameLists.f k t381 t397).bind fun t400 => (if t400 = true then ((impl_HookProduct.f k t377).bind fun t401 => ((spec_HookProduct.f k t377).bind fun t402 => (if t401 = t402 then ((impl_ColumnCount.f k t384 t385).bind fun t403 => ((spec_ColumnCount.f k t384 t385).bind fun t404 => (laws_FnHooks.j0 k t377 t380 (t403 != t404)))) else (laws_FnHooks.j0 k t377 t380 true)))) else (laws_FnHooks.j0 k t377 t380 true)))) else (laws_FnHooks.j0 k t377 t380 true))) else (laws_FnHooks.j0 k t377 t380 true))) = some true := H
            have A25 := Aside0.mk A250
            clear A250
            replace H := Option.bind_eq_some_iff.mp H
            obtain ⟨t395, A260, H⟩ := H
            replace H : (if t394 = t395 then ((spec_StandardCount.f k t377).bind fun t396 => (if t380 = t396 then ((spec_HookLengths.f k t377).bind fun t397 => ((laws_sameLists.f k t381 t397).bind fun t400 => (if t400 = true then ((impl_HookProduct.f k t377).bind fun t401 => ((spec_HookProduct.f k t377).bind fun t402 => (if t401 = t402 then ((impl_ColumnCount.f k t384 t385).bind fun t403 => ((spec_ColumnCount.f k t384 t385).bind fun t404 => (laws_FnHooks.j0 k t377 t380 (t403 != t404)))) else (laws_FnHooks.j0 k t377 t380 true)))) else (laws_FnHooks.j0 k t377 t380 true)))) else (laws_FnHooks.j0 k t377 t380 true))) else (laws_FnHooks.j0 k t377 t380 true)) = some true := H
            have A26 := Aside0.mk A260
            clear A260
            by_cases c27 : t394 = t395
            · rw [if_pos c27] at H
              have c27b0 : (t394 == t395) = true := beq_iff_eq.mpr c27
              have c27b1 : (t394 != t395) = false := bne_eq_false_iff_eq.mpr c27
              clear c27
              replace H := Option.bind_eq_some_iff.mp H
              obtain ⟨t396, A280, H⟩ := H
              replace H : (if t380 = t396 then ((spec_HookLengths.f k t377).bind fun t397 => ((laws_sameLists.f k t381 t397).bind fun t400 => (if t400 = true then ((impl_HookProduct.f k t377).bind fun t401 => ((spec_HookProduct.f k t377).bind fun t402 => (if t401 = t402 then ((impl_ColumnCount.f k t384 t385).bind fun t403 => ((spec_ColumnCount.f k t384 t385).bind fun t404 => (laws_FnHooks.j0 k t377 t380 (t403 != t404)))) else (laws_FnHooks.j0 k t377 t380 true)))) else (laws_FnHooks.j0 k t377 t380 true)))) else (laws_FnHooks.j0 k t377 t380 true)) = some true := H
              have A28 := Aside0.mk A280
              clear A280
              by_cases c29 : t380 = t396
              · rw [if_pos c29] at H
                have c29b0 : (t380 == t396) = true := beq_iff_eq.mpr c29
                have c29b1 : (t380 != t396) = false := bne_eq_false_iff_eq.mpr c29
                clear c29
                replace H := Option.bind_eq_some_iff.mp H
                obtain ⟨t397, A300, H⟩ := H
                replace H : ((laws_sameLists.f k t381 t397).bind fun t400 => (if t400 = true then ((impl_HookProduct.f k t377).bind fun t401 => ((spec_HookProduct.f k t377).bind fun t402 => (if t401 = t402 then ((impl_ColumnCount.f k t384 t385).bind fun t403 => ((spec_ColumnCount.f k t384 t385).bind fun t404 => (laws_FnHooks.j0 k t377 t380 (t403 != t404)))) else (laws_FnHooks.j0 k t377 t380 true)))) else (laws_FnHooks.j0 k t377 t380 true))) = some true := H
                have A30 := Aside0.mk A300
                clear A300
                replace H := Option.bind_eq_some_iff.mp H
                obtain ⟨t400, A310, H⟩ := H
                replace H : (if t400 = true then ((impl_HookProduct.f k t377).bind fun t401 => ((spec_HookProduct.f k t377).bind fun t402 => (if t401 = t402 then ((impl_ColumnCount.f k t384 t385).bind fun t403 => ((spec_ColumnCount.f k t384 t385).bind fun t404 => (laws_FnHooks.j0 k t377 t380 (t403 != t404)))) else (laws_FnHooks.j0 k t377 t380 true)))) else (laws_FnHooks.j0 k t377 t380 true)) = some true := H
                have A31 := Aside0.mk A310
                clear A310
                by_cases c32 : t400 = true
                · subst c32
                  have H1 : ((impl_HookProduct.f k t377).bind fun t401 => ((spec_HookProduct.f k t377).bind fun t402 => (if t401 = t402 then ((impl_ColumnCount.f k t384 t385).bind fun t403 => ((spec_ColumnCount.f k t384 t385).bind fun t404 => (laws_FnHooks.j0 k t377 t380 (t403 != t404)))) else (laws_FnHooks.j0 k t377 t380 true)))) = some true := by rw [if_pos rfl] at H; exact H
                  clear H
                  have H := H1
                  clear H1
                  replace H := Option.bind_eq_some_iff.mp H
                  obtain ⟨t401, A330, H⟩ := H
                  replace H : ((spec_HookProduct.f k t377).bind fun t402 => (if t401 = t402 then ((impl_ColumnCount.f k t384 t385).bind fun t403 => ((spec_ColumnCount.f k t384 t385).bind fun t404 => (laws_FnHooks.j0 k t377 t380 (t403 != t404)))) else (laws_FnHooks.j0 k t377 t380 true))) = some true := H
                  have A33 := Aside0.mk A330
                  clear A330
                  replace H := Option.bind_eq_some_iff.mp H
                  obtain ⟨t402, A340, H⟩ := H
                  replace H : (if t401 = t402 then ((impl_ColumnCount.f k t384 t385).bind fun t403 => ((spec_ColumnCount.f k t384 t385).bind fun t404 => (laws_FnHooks.j0 k t377 t380 (t403 != t404)))) else (laws_FnHooks.j0 k t377 t380 true)) = some true := H
                  have A34 := Aside0.mk A340
                  clear A340
                  by_cases c35 : t401 = t402
                  · rw [if_pos c35] at H
                    have c35b0 : (t401 == t402) = true := beq_iff_eq.mpr c35
                    have c35b1 : (t401 != t402) = false := bne_eq_false_iff_eq.mpr c35
                    clear c35
                    replace H := Option.bind_eq_some_iff.mp H
                    obtain ⟨t403, A360, H⟩ := H
                    replace H : ((spec_ColumnCount.f k t384 t385).bind fun t404 => (laws_FnHooks.j0 k t377 t380 (t403 != t404))) = some true := H
                    have A36 := Aside0.mk A360
                    clear A360
                    replace H := Option.bind_eq_some_iff.mp H
                    obtain ⟨t404, A370, H⟩ := H
                    replace H : (laws_FnHooks.j0 k t377 t380 (t403 != t404)) = some true := H
                    have A37 := Aside0.mk A370
                    clear A370
                    have H' := Aside0.mk H
                    clear H
                    obtain ⟨Ao38, co38, eo38⟩ := Kd.R_slice HO376.out
                    subst eo38
                    go_wp2_with (first | ((with_reducible refine gate_callee (f := 10) rfl ?_); refine goesL_ (some 38) rfl rfl Try.func10 (by kernel_rfl) rfl #[.slice Ao38 t372.length co38, .int .i64 t373, .int .i64 t374] rfl (by (try simp only [List.map_toArray, List.map_cons, List.map_nil]); first | done | rfl | (simp only [List.length_drop, List.length_take]; rfl)) ?_; (with_reducible refine (impl_HookOf.calls k _ _ t372 t373 t374 t388 _ ?side1 ?side2 A16.out).mono ?_); (case side1 => repeat (first | exact (Kd.R_reads' HO376.out).2.2 | (with_reducible refine Kd.C_alloc ?_ _) | (with_reducible refine Kd.C_drewN ?_ _) | (with_reducible refine Kd.C_drew ?_))); (case side2 => exact (Kd.R_reads' HO376.out).2.1); rintro e w' ⟨rfl, ⟨nd, rfl⟩⟩; refine ⟨_, rfl, ?_⟩) | (go_at_call 10; (with_reducible refine (impl_HookOf.calls k _ _ t372 t373 t374 t388 _ ?side1 ?side2 A16.out).mono ?_); (case side1 => repeat (first | exact (Kd.R_reads' HO376.out).2.2 | (with_reducible refine Kd.C_alloc ?_ _) | (with_reducible refine Kd.C_drewN ?_ _) | (with_reducible refine Kd.C_drew ?_))); (case side2 => exact (Kd.R_reads' HO376.out).2.1); rintro e w' ⟨rfl, ⟨nd, rfl⟩⟩) | ((with_reducible refine gate_callee (f := 11) rfl ?_); refine goesL_ (some 42) rfl rfl Try.func11 (by kernel_rfl) rfl #[.slice Ao38 t372.length co38, .int .i64 t373, .int .i64 t374] rfl (by (try simp only [List.map_toArray, List.map_cons, List.map_nil]); first | done | rfl | (simp only [List.length_drop, List.length_take]; rfl)) ?_; (with_reducible refine (spec_HookOf.calls k _ _ t372 t373 t374 t389 _ ?side1 ?side2 A17.out).mono ?_); (case side1 => repeat (first | exact (Kd.R_reads' HO376.out).2.2 | (with_reducible refine Kd.C_alloc ?_ _) | (with_reducible refine Kd.C_drewN ?_ _) | (with_reducible refine Kd.C_drew ?_))); (case side2 => exact (Kd.R_reads' HO376.out).2.1); rintro e w' ⟨rfl, ⟨nd, rfl⟩⟩; refine ⟨_, rfl, ?_⟩) | (go_at_call 11; (with_reducible refine (spec_HookOf.calls k _ _ t372 t373 t374 t389 _ ?side1 ?side2 A17.out).mono ?_); (case side1 => repeat (first | exact (Kd.R_reads' HO376.out).2.2 | (with_reducible refine Kd.C_alloc ?_ _) | (with_reducible refine Kd.C_drewN ?_ _) | (with_reducible refine Kd.C_drew ?_))); (case side2 => exact (Kd.R_reads' HO376.out).2.1); rintro e w' ⟨rfl, ⟨nd, rfl⟩⟩) | (go_at_call 12; (with_reducible refine (impl_ArmOf.calls k _ _ t372 t373 t374 t390 _ ?side1 ?side2 A19.out).mono ?_); (case side1 => repeat (first | exact (Kd.R_reads' HO376.out).2.2 | (with_reducible refine Kd.C_alloc ?_ _) | (with_reducible refine Kd.C_drewN ?_ _) | (with_reducible refine Kd.C_drew ?_))); (case side2 => exact (Kd.R_reads' HO376.out).2.1); rintro e w' ⟨rfl, ⟨nd, rfl⟩⟩) | (go_at_call 13; (with_reducible refine (spec_ArmOf.calls k _ _ t372 t373 t374 t391 _ ?side1 ?side2 A20.out).mono ?_); (case side1 => repeat (first | exact (Kd.R_reads' HO376.out).2.2 | (with_reducible refine Kd.C_alloc ?_ _) | (with_reducible refine Kd.C_drewN ?_ _) | (with_reducible refine Kd.C_drew ?_))); (case side2 => exact (Kd.R_reads' HO376.out).2.1); rintro e w' ⟨rfl, ⟨nd, rfl⟩⟩) | (go_at_call 14; (with_reducible refine (impl_LegOf.calls k _ _ t372 t373 t374 t392 _ ?side1 ?side2 A22.out).mono ?_); (case side1 => repeat (first | exact (Kd.R_reads' HO376.out).2.2 | (with_reducible refine Kd.C_alloc ?_ _) | (with_reducible refine Kd.C_drewN ?_ _) | (with_reducible refine Kd.C_drew ?_))); (case side2 => exact (Kd.R_reads' HO376.out).2.1); rintro e w' ⟨rfl, ⟨nd, rfl⟩⟩) | (go_at_call 15; (with_reducible refine (spec_LegOf.calls k _ _ t372 t373 t374 t393 _ ?side1 ?side2 A23.out).mono ?_); (case side1 => repeat (first | exact (Kd.R_reads' HO376.out).2.2 | (with_reducible refine Kd.C_alloc ?_ _) | (with_reducible refine Kd.C_drewN ?_ _) | (with_reducible refine Kd.C_drew ?_))); (case side2 => exact (Kd.R_reads' HO376.out).2.1); rintro e w' ⟨rfl, ⟨nd, rfl⟩⟩) | (go_at_call 16; (with_reducible refine (impl_ContentOf.calls k _ _ t372 t373 t374 t394 _ ?side1 ?side2 A25.out).mono ?_); (case side1 => repeat (first | exact (Kd.R_reads' HO376.out).2.2 | (with_reducible refine Kd.C_alloc ?_ _) | (with_reducible refine Kd.C_drewN ?_ _) | (with_reducible refine Kd.C_drew ?_))); (case side2 => exact (Kd.R_reads' HO376.out).2.1); rintro e w' ⟨rfl, ⟨nd, rfl⟩⟩) | (go_at_call 17; (with_reducible refine (spec_ContentOf.calls k _ _ t372 t373 t374 t395 _ ?side1 ?side2 A26.out).mono ?_); (case side1 => repeat (first | exact (Kd.R_reads' HO376.out).2.2 | (with_reducible refine Kd.C_alloc ?_ _) | (with_reducible refine Kd.C_drewN ?_ _) | (with_reducible refine Kd.C_drew ?_))); (case side2 => exact (Kd.R_reads' HO376.out).2.1); rintro e w' ⟨rfl, ⟨nd, rfl⟩⟩) | (go_at_call 18; (with_reducible refine (spec_StandardCount.calls k _ _ t377 t396 _ ?side1 ?side2 A28.out).mono ?_); (case side1 => repeat (first | exact (Kd.R_reads' HO379.out).2.2 | (with_reducible refine Kd.C_alloc ?_ _) | (with_reducible refine Kd.C_drewN ?_ _) | (with_reducible refine Kd.C_drew ?_))); (case side2 => exact (Kd.R_reads' HO379.out).2.1); rintro e w' ⟨rfl, ⟨nd, rfl⟩⟩) | (go_at_call 20; (with_reducible refine (spec_HookLengths.calls k _ _ t377 t397 _ ?side1 ?side2 A30.out).mono ?_); (case side1 => repeat (first | exact (Kd.R_reads' HO379.out).2.2 | (with_reducible refine Kd.C_alloc ?_ _) | (with_reducible refine Kd.C_drewN ?_ _) | (with_reducible refine Kd.C_drew ?_))); (case side2 => exact (Kd.R_reads' HO379.out).2.1); rintro e w39 ⟨v398, rfl, ho0, hb⟩; have n0_ := Aside0.mk (Kd.R_below (by (with_reducible repeat (first | apply Kd.R_alloc | apply Kd.R_drewN | apply Kd.R_drew)); exact HO376.out) hb); have n1_ := Aside0.mk (Kd.R_below (by (with_reducible repeat (first | apply Kd.R_alloc | apply Kd.R_drewN | apply Kd.R_drew)); exact HO379.out) hb); have n2_ := Aside0.mk (Kd.S_elder' (by (with_reducible repeat (first | apply Kd.S_alloc | apply Kd.S_drewN | apply Kd.S_drew)); exact HO383.out) (Kd.S_base ho0) hb); have n3_ := Aside0.mk (Kd.R_below (by (with_reducible repeat (first | apply Kd.R_alloc | apply Kd.R_drewN | apply Kd.R_drew)); exact HO387.out) hb); have n4_ := Aside0.mk (Kd.S_lower (Kd.S_new' (Kd.S_new' (Kd.S_new' (Kd.S_new' ho0 (Kd.R_lt (by (with_reducible repeat (first | apply Kd.R_alloc | apply Kd.R_drewN | apply Kd.R_drew)); exact HO376.out))) (Kd.R_lt (by (with_reducible repeat (first | apply Kd.R_alloc | apply Kd.R_drewN | apply Kd.R_drew)); exact HO379.out))) (Kd.S_lt (by (with_reducible repeat (first | apply Kd.S_alloc | apply Kd.S_drewN | apply Kd.S_drew)); exact HO383.out))) (Kd.R_lt (by (with_reducible repeat (first | apply Kd.R_alloc | apply Kd.R_drewN | apply Kd.R_drew)); exact HO387.out))) (below_size (by repeat (first | (with_reducible first | exact HB.out | apply below_alloc | apply pw_below_drewN | apply below_drew1) | exact HB.out)))); have n5_ := Aside0.mk (below_step (by repeat (first | (with_reducible first | exact HB.out | apply below_alloc | apply pw_below_drewN | apply below_drew1) | exact HB.out)) hb); clear HO376; clear HO379; clear HO383; clear HO387; clear HB; have HO376 := n0_; have HO379 := n1_; have HO383 := n2_; have HO387 := n3_; have HO399 := n4_; have HB := n5_; clear n0_ n1_ n2_ n3_ n4_ n5_; (try clear hb); (try clear hb2); (try clear hk); (try clear hi); (try clear ho0); obtain ⟨Ao40, co40, eo40⟩ := Kd.S_slice HO383.out; subst eo40; obtain ⟨Ao41, co41, eo41⟩ := Kd.S_slice HO399.out; subst eo41) | (go_at_call 19; (with_reducible refine (laws_sameLists.calls k _ _ t381 _ _ t397 true _ ?side1 ?side2 ?side3 ?side4 A31.out).mono ?_); (case side1 => repeat (first | exact (Kd.S_reads' HO383.out).2.2 | (with_reducible refine Kd.C_alloc ?_ _) | (with_reducible refine Kd.C_drewN ?_ _) | (with_reducible refine Kd.C_drew ?_))); (case side2 => exact (Kd.S_reads' HO383.out).2.1); (case side3 => repeat (first | exact (Kd.S_reads' HO399.out).2.2 | (with_reducible refine Kd.C_alloc ?_ _) | (with_reducible refine Kd.C_drewN ?_ _) | (with_reducible refine Kd.C_drew ?_))); (case side4 => exact (Kd.S_reads' HO399.out).2.1); rintro e w' ⟨rfl, ⟨nd, rfl⟩⟩) | (go_at_call 21; (with_reducible refine (impl_HookProduct.calls k _ _ t377 t401 _ ?side1 ?side2 A33.out).mono ?_); (case side1 => repeat (first | exact (Kd.R_reads' HO379.out).2.2 | (with_reducible refine Kd.C_alloc ?_ _) | (with_reducible refine Kd.C_drewN ?_ _) | (with_reducible refine Kd.C_drew ?_))); (case side2 => exact (Kd.R_reads' HO379.out).2.1); rintro e w42 ⟨rfl, hb⟩; have n0_ := Aside0.mk (Kd.R_below (by (with_reducible repeat (first | apply Kd.R_alloc | apply Kd.R_drewN | apply Kd.R_drew)); exact HO376.out) hb); have n1_ := Aside0.mk (Kd.R_below (by (with_reducible repeat (first | apply Kd.R_alloc | apply Kd.R_drewN | apply Kd.R_drew)); exact HO379.out) hb); have n2_ := Aside0.mk (Kd.S_below (by (with_reducible repeat (first | apply Kd.S_alloc | apply Kd.S_drewN | apply Kd.S_drew)); exact HO383.out) hb); have n3_ := Aside0.mk (Kd.R_below (by (with_reducible repeat (first | apply Kd.R_alloc | apply Kd.R_drewN | apply Kd.R_drew)); exact HO387.out) hb); have n4_ := Aside0.mk (Kd.S_below (by (with_reducible repeat (first | apply Kd.S_alloc | apply Kd.S_drewN | apply Kd.S_drew)); exact HO399.out) hb); have n5_ := Aside0.mk (below_step (by repeat (first | (with_reducible first | exact HB.out | apply below_alloc | apply pw_below_drewN | apply below_drew1) | exact HB.out)) hb); clear HO376; clear HO379; clear HO383; clear HO387; clear HO399; clear HB; have HO376 := n0_; have HO379 := n1_; have HO383 := n2_; have HO387 := n3_; have HO399 := n4_; have HB := n5_; clear n0_ n1_ n2_ n3_ n4_ n5_; (try clear hb); (try clear hb2); (try clear hk); (try clear hi)) | (go_at_call 22; (with_reducible refine (spec_HookProduct.calls k _ _ t377 t402 _ ?side1 ?side2 A34.out).mono ?_); (case side1 => repeat (first | exact (Kd.R_reads' HO379.out).2.2 | (with_reducible refine Kd.C_alloc ?_ _) | (with_reducible refine Kd.C_drewN ?_ _) | (with_reducible refine Kd.C_drew ?_))); (case side2 => exact (Kd.R_reads' HO379.out).2.1); rintro e w' ⟨rfl, ⟨nd, rfl⟩⟩; obtain ⟨Ao43, co43, eo43⟩ := Kd.R_slice HO387.out; subst eo43) | (go_at_call 23; (with_reducible refine (impl_ColumnCount.calls k _ _ t384 t385 t403 _ ?side1 ?side2 A36.out).mono ?_); (case side1 => repeat (first | exact (Kd.R_reads' HO387.out).2.2 | (with_reducible refine Kd.C_alloc ?_ _) | (with_reducible refine Kd.C_drewN ?_ _) | (with_reducible refine Kd.C_drew ?_))); (case side2 => exact (Kd.R_reads' HO387.out).2.1); rintro e w44 ⟨rfl, hb⟩; have n0_ := Aside0.mk (Kd.R_below (by (with_reducible repeat (first | apply Kd.R_alloc | apply Kd.R_drewN | apply Kd.R_drew)); exact HO376.out) hb); have n1_ := Aside0.mk (Kd.R_below (by (with_reducible repeat (first | apply Kd.R_alloc | apply Kd.R_drewN | apply Kd.R_drew)); exact HO379.out) hb); have n2_ := Aside0.mk (Kd.S_below (by (with_reducible repeat (first | apply Kd.S_alloc | apply Kd.S_drewN | apply Kd.S_drew)); exact HO383.out) hb); have n3_ := Aside0.mk (Kd.R_below (by (with_reducible repeat (first | apply Kd.R_alloc | apply Kd.R_drewN | apply Kd.R_drew)); exact HO387.out) hb); have n4_ := Aside0.mk (Kd.S_below (by (with_reducible repeat (first | apply Kd.S_alloc | apply Kd.S_drewN | apply Kd.S_drew)); exact HO399.out) hb); have n5_ := Aside0.mk (below_step (by repeat (first | (with_reducible first | exact HB.out | apply below_alloc | apply pw_below_drewN | apply below_drew1) | exact HB.out)) hb); clear HO376; clear HO379; clear HO383; clear HO387; clear HO399; clear HB; have HO376 := n0_; have HO379 := n1_; have HO383 := n2_; have HO387 := n3_; have HO399 := n4_; have HB := n5_; clear n0_ n1_ n2_ n3_ n4_ n5_; (try clear hb); (try clear hb2); (try clear hk); (try clear hi)) | (go_at_call 24; (with_reducible refine (spec_ColumnCount.calls k _ _ t384 t385 t404 _ ?side1 ?side2 A37.out).mono ?_); (case side1 => repeat (first | exact (Kd.R_reads' HO387.out).2.2 | (with_reducible refine Kd.C_alloc ?_ _) | (with_reducible refine Kd.C_drewN ?_ _) | (with_reducible refine Kd.C_drew ?_))); (case side2 => exact (Kd.R_reads' HO387.out).2.1); rintro e w' ⟨rfl, ⟨nd, rfl⟩⟩))
                    go_meet
                    case rel => exact ⟨_, ((t403 != t404)), (by first | rfl | (simp; done) | (simp [*]; done)), H', ⟨by first | omega | exact Nat.le_refl _⟩, ⟨by (with_reducible repeat (first | apply Kd.R_alloc | apply Kd.R_drewN | apply Kd.R_drew)); exact Kd.R_mono HO379.out (fun _ hk => trivial)⟩, ⟨by repeat (first | (with_reducible first | exact HB.out | apply below_alloc | apply pw_below_drewN | apply below_drew1) | exact HB.out)⟩⟩
                  · rw [if_neg c35] at H
                    have c35b0 : (t401 == t402) = false := beq_eq_false_iff_ne.mpr c35
                    have c35b1 : (t401 != t402) = true := bne_iff_ne.mpr c35
                    exact absurd H (by cases k <;> simp [laws_FnHooks.j0])
                · replace c32 := Bool.eq_false_iff.mpr c32
                  subst c32
                  have H1 : (laws_FnHooks.j0 k t377 t380 true) = some true := by rw [if_neg (show ¬ (false = true) by decide)] at H; exact H
                  clear H
                  have H := H1
                  clear H1
                  exact absurd H (by cases k <;> simp [laws_FnHooks.j0])
              · rw [if_neg c29] at H
                have c29b0 : (t380 == t396) = false := beq_eq_false_iff_ne.mpr c29
                have c29b1 : (t380 != t396) = true := bne_iff_ne.mpr c29
                exact absurd H (by cases k <;> simp [laws_FnHooks.j0])
            · rw [if_neg c27] at H
              have c27b0 : (t394 == t395) = false := beq_eq_false_iff_ne.mpr c27
              have c27b1 : (t394 != t395) = true := bne_iff_ne.mpr c27
              exact absurd H (by cases k <;> simp [laws_FnHooks.j0])
          · rw [if_neg c24] at H
            have c24b0 : (t392 == t393) = false := beq_eq_false_iff_ne.mpr c24
            have c24b1 : (t392 != t393) = true := bne_iff_ne.mpr c24
            exact absurd H (by cases k <;> simp [laws_FnHooks.j0])
        · rw [if_neg c21] at H
          have c21b0 : (t390 == t391) = false := beq_eq_false_iff_ne.mpr c21
          have c21b1 : (t390 != t391) = true := bne_iff_ne.mpr c21
          exact absurd H (by cases k <;> simp [laws_FnHooks.j0])
      · rw [if_neg c18] at H
        have c18b0 : (t388 == t389) = false := beq_eq_false_iff_ne.mpr c18
        have c18b1 : (t388 != t389) = true := bne_iff_ne.mpr c18
        (first | rw [c18b0] | (simp only [i64_w, i32_w]; rw [c18b0]) | skip)
        exact absurd H (by cases k <;> simp [laws_FnHooks.j0])
    case rest =>
      clear HC9
      try clear c1
      try clear c2
      try clear p2
      try clear c3
      try clear c4
      try clear c5
      try clear c6
      try clear c7
      try clear c8
      try clear c9
      try clear c10
      try clear c11
      try clear c18
      try clear c18b0
      try clear c18b1
      try clear c21
      try clear c21b0
      try clear c21b1
      try clear c24
      try clear c24b0
      try clear c24b1
      try clear c27
      try clear c27b0
      try clear c27b1
      try clear c29
      try clear c29b0
      try clear c29b1
      try clear c32
      try clear c35
      try clear c35b0
      try clear c35b1
      obtain ⟨kq, x105_8, rfl, HA, HJ8, HO_6, HB⟩ := hcut
      cases kq with
      | zero => exact absurd HA.out (by simp [laws_FnHooks.j0])
      | succ kj8 =>
        have H := HA.out
        clear HA
        simp only [laws_FnHooks.j0] at H
        by_cases c45 : x105_8 = true
        · subst c45
          have H1 : (some false) = some true := by rw [if_pos rfl] at H; exact H
          clear H
          have H := H1
          clear H1
          exact absurd (Option.some.inj H) (by simp)
        · replace c45 := Bool.eq_false_iff.mpr c45
          subst c45
          have H1 : ((spec_IsPartition.f kj8 t377).bind fun t405 => (if t405 = true then ((spec_Corners.f kj8 t377).bind fun t406 => (laws_FnHooks.l0 kj8 t377 t380 0 t406 0)) else (some (t380 == 0)))) = some true := by rw [if_neg (show ¬ (false = true) by decide)] at H; exact H
          clear H
          have H := H1
          clear H1
          replace H := Option.bind_eq_some_iff.mp H
          obtain ⟨t405, A460, H⟩ := H
          replace H : (if t405 = true then ((spec_Corners.f kj8 t377).bind fun t406 => (laws_FnHooks.l0 kj8 t377 t380 0 t406 0)) else (some (t380 == 0))) = some true := H
          have A46 := Aside0.mk A460
          clear A460
          by_cases c47 : t405 = true
          · subst c47
            have H1 : ((spec_Corners.f kj8 t377).bind fun t406 => (laws_FnHooks.l0 kj8 t377 t380 0 t406 0)) = some true := by rw [if_pos rfl] at H; exact H
            clear H
            have H := H1
            clear H1
            replace H := Option.bind_eq_some_iff.mp H
            obtain ⟨t406, A480, H⟩ := H
            replace H : (laws_FnHooks.l0 kj8 t377 t380 0 t406 0) = some true := H
            have A48 := Aside0.mk A480
            clear A480
            have H' := Aside0.mk H
            clear H
            go_wp2_with (first | ((with_reducible refine gate_callee (f := 25) rfl ?_); refine goesL_ (some 107) rfl rfl Try.func25 (by kernel_rfl) rfl #[.slice Ao12 t377.length co12] rfl (by (try simp only [List.map_toArray, List.map_cons, List.map_nil]); first | done | rfl | (simp only [List.length_drop, List.length_take]; rfl)) ?_; (with_reducible refine (spec_IsPartition.calls kj8 _ _ t377 true _ ?side1 ?side2 A46.out).mono ?_); (case side1 => repeat (first | exact (Kd.R_reads' HO_6.out).2.2 | (with_reducible refine Kd.C_alloc ?_ _) | (with_reducible refine Kd.C_drewN ?_ _) | (with_reducible refine Kd.C_drew ?_))); (case side2 => exact (Kd.R_reads' HO_6.out).2.1); rintro e w' ⟨rfl, ⟨nd, rfl⟩⟩; refine ⟨_, rfl, ?_⟩) | (go_at_call 25; (with_reducible refine (spec_IsPartition.calls kj8 _ _ t377 true _ ?side1 ?side2 A46.out).mono ?_); (case side1 => repeat (first | exact (Kd.R_reads' HO_6.out).2.2 | (with_reducible refine Kd.C_alloc ?_ _) | (with_reducible refine Kd.C_drewN ?_ _) | (with_reducible refine Kd.C_drew ?_))); (case side2 => exact (Kd.R_reads' HO_6.out).2.1); rintro e w' ⟨rfl, ⟨nd, rfl⟩⟩) | ((with_reducible refine gate_callee (f := 26) rfl ?_); refine goesL_ (some 112) rfl rfl Try.func26 (by kernel_rfl) rfl #[.slice Ao12 t377.length co12] rfl (by (try simp only [List.map_toArray, List.map_cons, List.map_nil]); first | done | rfl | (simp only [List.length_drop, List.length_take]; rfl)) ?_; (with_reducible refine (spec_Corners.calls kj8 _ _ t377 t406 _ ?side1 ?side2 A48.out).mono ?_); (case side1 => repeat (first | exact (Kd.R_reads' HO_6.out).2.2 | (with_reducible refine Kd.C_alloc ?_ _) | (with_reducible refine Kd.C_drewN ?_ _) | (with_reducible refine Kd.C_drew ?_))); (case side2 => exact (Kd.R_reads' HO_6.out).2.1); rintro e w49 ⟨v407, rfl, ho0, hb⟩; refine ⟨_, rfl, ?_⟩; have n0_ := Aside0.mk (Kd.R_elder' (by (with_reducible repeat (first | apply Kd.R_alloc | apply Kd.R_drewN | apply Kd.R_drew)); exact HO_6.out) (Kd.R_base ho0) hb); have n1_ := Aside0.mk (Kd.R_lower (Kd.R_new' ho0 (Kd.R_lt (by (with_reducible repeat (first | apply Kd.R_alloc | apply Kd.R_drewN | apply Kd.R_drew)); exact HO_6.out))) (below_size (by repeat (first | (with_reducible first | exact HB.out | apply below_alloc | apply pw_below_drewN | apply below_drew1) | exact HB.out)))); have n2_ := Aside0.mk (below_step (by repeat (first | (with_reducible first | exact HB.out | apply below_alloc | apply pw_below_drewN | apply below_drew1) | exact HB.out)) hb); clear HO_6; clear HB; have HO_6 := n0_; have HO408 := n1_; have HB := n2_; clear n0_ n1_ n2_; (try clear hb); (try clear hb2); (try clear hk); (try clear hi); (try clear ho0)))
            go_loopg [11, 13] kj8 (fun kq v11 v13 w' => ∃ (x11_2 : Int) (x13_2 : Int), v11 = .int .i64 x11_2 ∧ v13 = .int .i64 x13_2 ∧ Aside0 (laws_FnHooks.l0 kq t377 t380 x11_2 t406 x13_2 = some true) ∧ Aside0 (kq ≤ kj8) ∧ Aside0 (Kd.R (Kd.int .i64) 3 w' w.heap.size (fun k_ => some k_ ≠ (v407 : Value).ownBlock) (.slice Ao12 t377.length co12) t377) ∧ Aside0 (Kd.R (Kd.int .i64) 3 w' w.heap.size (fun k_ => some k_ ≠ ((.slice Ao12 t377.length co12) : Value).ownBlock) v407 t406) ∧ Aside0 (Below w.heap.size w w'))
            case atStart => exact ⟨(0), (0), (by first | rfl | (simp; done) | (simp [*]; done)), (by first | rfl | (simp; done) | (simp [*]; done)), H', ⟨Nat.le_refl _⟩, ⟨by (with_reducible repeat (first | apply Kd.R_alloc | apply Kd.R_drewN | apply Kd.R_drew)); exact Kd.R_mono HO_6.out (fun _ hk => hk.2)⟩, ⟨by (with_reducible repeat (first | apply Kd.R_alloc | apply Kd.R_drewN | apply Kd.R_drew)); exact Kd.R_mono HO408.out (fun _ hk => hk.2)⟩, ⟨by repeat (first | (with_reducible first | exact HB.out | apply below_alloc | apply pw_below_drewN | apply below_drew1) | exact HB.out)⟩⟩
            case round =>
              clear H'
              try clear c1
              try clear c2
              try clear p2
              try clear c3
              try clear c4
              try clear c5
              try clear c6
              try clear c7
              try clear c8
              try clear c9
              try clear c10
              try clear c11
              try clear c18
              try clear c18b0
              try clear c18b1
              try clear c21
              try clear c21b0
              try clear c21b1
              try clear c24
              try clear c24b0
              try clear c24b1
              try clear c25
              try clear c26
              try clear c27
              try clear c27b0
              try clear c27b1
              try clear c29
              try clear c29b0
              try clear c29b1
              try clear c32
              try clear c35
              try clear c35b0
              try clear c35b1
              try clear c45
              try clear c47
              try clear p2
              obtain ⟨x11_2, x13_2, rfl, rfl, HA, HK2, HO_6, HO_12, HB⟩ := hrel
              cases gk with
              | zero => exact absurd HA.out (by simp [laws_FnHooks.l0])
              | succ k2 =>
                have H := HA.out
                clear HA
                simp only [laws_FnHooks.l0] at H
                by_cases c50 : x13_2 < (t406.length : Int)
                · rw [if_pos c50] at H
                  have c50b0 : decide (x13_2 < (t406.length : Int)) = true := decide_eq_true c50
                  clear c50
                  by_cases c51 : 0 ≤ x13_2
                  · rw [if_pos c51] at H
                    have c51b0 : decide (0 ≤ x13_2) = true := decide_eq_true c51
                    clear c51
                    replace H := Option.bind_eq_some_iff.mp H
                    obtain ⟨⟨t410, t411⟩, A520, H⟩ := H
                    replace H : ((impl_StandardCount.f k2 t410).bind fun t414 => (laws_FnHooks.l0 k2 t377 t380 (wrap64 (x11_2 + t414)) t406 (wrap64 (x13_2 + 1)))) = some true := H
                    have A52 := Aside0.mk A520
                    clear A520
                    replace H := Option.bind_eq_some_iff.mp H
                    obtain ⟨t414, A530, H⟩ := H
                    replace H : (laws_FnHooks.l0 k2 t377 t380 (wrap64 (x11_2 + t414)) t406 (wrap64 (x13_2 + 1))) = some true := H
                    have A53 := Aside0.mk A530
                    clear A530
                    have H' := Aside0.mk H
                    clear H
                    obtain ⟨Ao54, co54, eo54⟩ := Kd.R_slice HO_12.out
                    subst eo54
                    have p409 : 0 ≤ (x13_2 : Int) := of_decide_eq_true (by first | (with_reducible assumption) | assumption)
                    have q409 : x13_2 < (t406.length : Int) := of_decide_eq_true (by first | (with_reducible assumption) | assumption)
                    obtain ⟨ad409, e409, hx409_0⟩ := Kd.at_int (Kd.R_reads' HO_12.out).2.2 x13_2 p409 q409
                    cases e409
                    replace p409 := eq_true p409
                    replace q409 := eq_true q409
                    go_wp2_with (first | ((with_reducible refine gate_callee (f := 27) rfl ?_); refine goesL_ (some 125) rfl rfl Try.func27 (by kernel_rfl) rfl #[.slice Ao12 t377.length co12, .int .i64 (rd t406 x13_2)] rfl (by (try simp only [List.map_toArray, List.map_cons, List.map_nil]); first | done | rfl | (simp only [List.length_drop, List.length_take]; rfl)) ?_; (with_reducible refine (spec_RemoveBox.calls k2 _ _ t377 (rd t406 x13_2) t410 t411 _ ?side1 ?side2 A52.out).mono ?_); (case side1 => repeat (first | exact (Kd.R_reads' HO_6.out).2.2 | (with_reducible refine Kd.C_alloc ?_ _) | (with_reducible refine Kd.C_drewN ?_ _) | (with_reducible refine Kd.C_drew ?_))); (case side2 => exact (Kd.R_reads' HO_6.out).2.1); rintro e w55 ⟨v412, rfl, ho0, hb⟩; refine ⟨_, rfl, ?_⟩; have n0_ := Aside0.mk (Kd.R_elder' (by (with_reducible repeat (first | apply Kd.R_alloc | apply Kd.R_drewN | apply Kd.R_drew)); exact HO_6.out) (Kd.R_base ho0) hb); have n1_ := Aside0.mk (Kd.R_elder' (by (with_reducible repeat (first | apply Kd.R_alloc | apply Kd.R_drewN | apply Kd.R_drew)); exact HO_12.out) (Kd.R_base ho0) hb); have n2_ := Aside0.mk (Kd.R_lower (Kd.R_new' (Kd.R_new' ho0 (Kd.R_lt (by (with_reducible repeat (first | apply Kd.R_alloc | apply Kd.R_drewN | apply Kd.R_drew)); exact HO_6.out))) (Kd.R_lt (by (with_reducible repeat (first | apply Kd.R_alloc | apply Kd.R_drewN | apply Kd.R_drew)); exact HO_12.out))) (below_size (by repeat (first | (with_reducible first | exact HB.out | apply below_alloc | apply pw_below_drewN | apply below_drew1) | exact HB.out)))); have n3_ := Aside0.mk (below_step (by repeat (first | (with_reducible first | exact HB.out | apply below_alloc | apply pw_below_drewN | apply below_drew1) | exact HB.out)) hb); clear HO_6; clear HO_12; clear HB; have HO_6 := n0_; have HO_12 := n1_; have HO413 := n2_; have HB := n3_; clear n0_ n1_ n2_ n3_; (try clear hb); (try clear hb2); (try clear hk); (try clear hi); (try clear ho0); obtain ⟨Ao56, co56, eo56⟩ := Kd.R_slice HO413.out; subst eo56) | ((with_reducible refine gate_callee (f := 7) rfl ?_); refine goesL_ (some 130) rfl rfl Try.func7 (by kernel_rfl) rfl #[.slice Ao56 t410.length co56] rfl (by (try simp only [List.map_toArray, List.map_cons, List.map_nil]); first | done | rfl | (simp only [List.length_drop, List.length_take]; rfl)) ?_; (with_reducible refine (impl_StandardCount.calls k2 _ _ t410 t414 _ ?side1 ?side2 A53.out).mono ?_); (case side1 => repeat (first | exact (Kd.R_reads' HO413.out).2.2 | (with_reducible refine Kd.C_alloc ?_ _) | (with_reducible refine Kd.C_drewN ?_ _) | (with_reducible refine Kd.C_drew ?_))); (case side2 => exact (Kd.R_reads' HO413.out).2.1); rintro e w57 ⟨rfl, hb⟩; refine ⟨_, rfl, ?_⟩; have n0_ := Aside0.mk (Kd.R_below (by (with_reducible repeat (first | apply Kd.R_alloc | apply Kd.R_drewN | apply Kd.R_drew)); exact HO_6.out) hb); have n1_ := Aside0.mk (Kd.R_below (by (with_reducible repeat (first | apply Kd.R_alloc | apply Kd.R_drewN | apply Kd.R_drew)); exact HO_12.out) hb); have n2_ := Aside0.mk (Kd.R_below (by (with_reducible repeat (first | apply Kd.R_alloc | apply Kd.R_drewN | apply Kd.R_drew)); exact HO413.out) hb); have n3_ := Aside0.mk (below_step (by repeat (first | (with_reducible first | exact HB.out | apply below_alloc | apply pw_below_drewN | apply below_drew1) | exact HB.out)) hb); clear HO_6; clear HO_12; clear HO413; clear HB; have HO_6 := n0_; have HO_12 := n1_; have HO413 := n2_; have HB := n3_; clear n0_ n1_ n2_ n3_; (try clear hb); (try clear hb2); (try clear hk); (try clear hi)))
                    go_roundg k2
                    case measure => have := HJ8.out; have := HK2.out; omega
                    case rel => exact ⟨(wrap64 (x11_2 + t414)), (wrap64 (x13_2 + 1)), (by first | rfl | (simp; done) | (simp [*]; done)), (by first | rfl | (simp; done) | (simp [*]; done)), H', ⟨by have := HJ8.out; have := HK2.out; omega⟩, ⟨by (with_reducible repeat (first | apply Kd.R_alloc | apply Kd.R_drewN | apply Kd.R_drew)); exact Kd.R_mono HO_6.out (fun _ hk => hk.1)⟩, ⟨by (with_reducible repeat (first | apply Kd.R_alloc | apply Kd.R_drewN | apply Kd.R_drew)); exact Kd.R_mono HO_12.out (fun _ hk => hk.1)⟩, ⟨by repeat (first | (with_reducible first | exact HB.out | apply below_alloc | apply pw_below_drewN | apply below_drew1) | exact HB.out)⟩⟩
                  · rw [if_neg c51] at H
                    exact absurd H (by simp)
                · rw [if_neg c50] at H
                  have c50b0 : decide (x13_2 < (t406.length : Int)) = false := decide_eq_false c50
                  clear c50
                  by_cases c58 : (t377.length : Int) = 0
                  · rw [if_pos c58] at H
                    have c58b0 : ((t377.length : Int) == 0) = true := beq_iff_eq.mpr c58
                    have c58b1 : ((t377.length : Int) != 0) = false := bne_eq_false_iff_eq.mpr c58
                    clear c58
                    by_cases c59 : t380 = 1
                    · rw [if_pos c59] at H
                      have c59b0 : (t380 == 1) = true := beq_iff_eq.mpr c59
                      have c59b1 : (t380 != 1) = false := bne_eq_false_iff_eq.mpr c59
                      clear c59
                      replace H := Option.bind_eq_some_iff.mp H
                      obtain ⟨t415, A600, H⟩ := H
                      replace H : ((spec_SizeOf.f k2 t377).bind fun t416 => ((laws_factorial.f k2 t416).bind fun t417 => (if (wrap64 (t380 * t415)) = t417 then ((spec_Conjugate.f k2 t377).bind fun t418 => ((impl_StandardCount.f k2 t418).bind fun t421 => (some (t421 == t380)))) else (some false)))) = some true := H
                      have A60 := Aside0.mk A600
                      clear A600
                      replace H := Option.bind_eq_some_iff.mp H
                      obtain ⟨t416, A610, H⟩ := H
                      replace H : ((laws_factorial.f k2 t416).bind fun t417 => (if (wrap64 (t380 * t415)) = t417 then ((spec_Conjugate.f k2 t377).bind fun t418 => ((impl_StandardCount.f k2 t418).bind fun t421 => (some (t421 == t380)))) else (some false))) = some true := H
                      have A61 := Aside0.mk A610
                      clear A610
                      replace H := Option.bind_eq_some_iff.mp H
                      obtain ⟨t417, A620, H⟩ := H
                      replace H : (if (wrap64 (t380 * t415)) = t417 then ((spec_Conjugate.f k2 t377).bind fun t418 => ((impl_StandardCount.f k2 t418).bind fun t421 => (some (t421 == t380)))) else (some false)) = some true := H
                      have A62 := Aside0.mk A620
                      clear A620
                      by_cases c63 : (wrap64 (t380 * t415)) = t417
                      · rw [if_pos c63] at H
                        have c63b0 : ((wrap64 (t380 * t415)) == t417) = true := beq_iff_eq.mpr c63
                        have c63b1 : ((wrap64 (t380 * t415)) != t417) = false := bne_eq_false_iff_eq.mpr c63
                        clear c63
                        replace H := Option.bind_eq_some_iff.mp H
                        obtain ⟨t418, A640, H⟩ := H
                        replace H : ((impl_StandardCount.f k2 t418).bind fun t421 => (some (t421 == t380))) = some true := H
                        have A64 := Aside0.mk A640
                        clear A640
                        replace H := Option.bind_eq_some_iff.mp H
                        obtain ⟨t421, A650, H⟩ := H
                        replace H : (some (t421 == t380)) = some true := H
                        have A65 := Aside0.mk A650
                        clear A650
                        have hres_ := Option.some.inj H
                        clear H
                        obtain ⟨Ao66, co66, eo66⟩ := Kd.R_slice HO_12.out
                        subst eo66
                        go_wp2_with (first | (go_at_call 21; (with_reducible refine (impl_HookProduct.calls k2 _ _ t377 t415 _ ?side1 ?side2 A60.out).mono ?_); (case side1 => repeat (first | exact (Kd.R_reads' HO_6.out).2.2 | (with_reducible refine Kd.C_alloc ?_ _) | (with_reducible refine Kd.C_drewN ?_ _) | (with_reducible refine Kd.C_drew ?_))); (case side2 => exact (Kd.R_reads' HO_6.out).2.1); rintro e w67 ⟨rfl, hb⟩; have n0_ := Aside0.mk (Kd.R_below (by (with_reducible repeat (first | apply Kd.R_alloc | apply Kd.R_drewN | apply Kd.R_drew)); exact HO_6.out) hb); have n1_ := Aside0.mk (Kd.R_below (by (with_reducible repeat (first | apply Kd.R_alloc | apply Kd.R_drewN | apply Kd.R_drew)); exact HO_12.out) hb); have n2_ := Aside0.mk (below_step (by repeat (first | (with_reducible first | exact HB.out | apply below_alloc | apply pw_below_drewN | apply below_drew1) | exact HB.out)) hb); clear HO_6; clear HO_12; clear HB; have HO_6 := n0_; have HO_12 := n1_; have HB := n2_; clear n0_ n1_ n2_; (try clear hb); (try clear hb2); (try clear hk); (try clear hi)) | (go_at_call 29; (with_reducible refine (spec_SizeOf.calls k2 _ _ t377 t416 _ ?side1 ?side2 A61.out).mono ?_); (case side1 => repeat (first | exact (Kd.R_reads' HO_6.out).2.2 | (with_reducible refine Kd.C_alloc ?_ _) | (with_reducible refine Kd.C_drewN ?_ _) | (with_reducible refine Kd.C_drew ?_))); (case side2 => exact (Kd.R_reads' HO_6.out).2.1); rintro e w' ⟨rfl, ⟨nd, rfl⟩⟩) | (go_at_call 28; (with_reducible refine (laws_factorial.calls k2 t416 t417 _ A62.out).mono ?_); rintro e w' ⟨rfl, ⟨nd, rfl⟩⟩) | (go_at_call 30; (with_reducible refine (spec_Conjugate.calls k2 _ _ t377 t418 _ ?side1 ?side2 A64.out).mono ?_); (case side1 => repeat (first | exact (Kd.R_reads' HO_6.out).2.2 | (with_reducible refine Kd.C_alloc ?_ _) | (with_reducible refine Kd.C_drewN ?_ _) | (with_reducible refine Kd.C_drew ?_))); (case side2 => exact (Kd.R_reads' HO_6.out).2.1); rintro e w68 ⟨v419, rfl, ho0, hb⟩; have n0_ := Aside0.mk (Kd.R_elder' (by (with_reducible repeat (first | apply Kd.R_alloc | apply Kd.R_drewN | apply Kd.R_drew)); exact HO_6.out) (Kd.R_base ho0) hb); have n1_ := Aside0.mk (Kd.R_elder' (by (with_reducible repeat (first | apply Kd.R_alloc | apply Kd.R_drewN | apply Kd.R_drew)); exact HO_12.out) (Kd.R_base ho0) hb); have n2_ := Aside0.mk (Kd.R_lower (Kd.R_new' (Kd.R_new' ho0 (Kd.R_lt (by (with_reducible repeat (first | apply Kd.R_alloc | apply Kd.R_drewN | apply Kd.R_drew)); exact HO_6.out))) (Kd.R_lt (by (with_reducible repeat (first | apply Kd.R_alloc | apply Kd.R_drewN | apply Kd.R_drew)); exact HO_12.out))) (below_size (by repeat (first | (with_reducible first | exact HB.out | apply below_alloc | apply pw_below_drewN | apply below_drew1) | exact HB.out)))); have n3_ := Aside0.mk (below_step (by repeat (first | (with_reducible first | exact HB.out | apply below_alloc | apply pw_below_drewN | apply below_drew1) | exact HB.out)) hb); clear HO_6; clear HO_12; clear HB; have HO_6 := n0_; have HO_12 := n1_; have HO420 := n2_; have HB := n3_; clear n0_ n1_ n2_ n3_; (try clear hb); (try clear hb2); (try clear hk); (try clear hi); (try clear ho0); obtain ⟨Ao69, co69, eo69⟩ := Kd.R_slice HO420.out; subst eo69) | (go_at_call 7; (with_reducible refine (impl_StandardCount.calls k2 _ _ t418 t421 _ ?side1 ?side2 A65.out).mono ?_); (case side1 => repeat (first | exact (Kd.R_reads' HO420.out).2.2 | (with_reducible refine Kd.C_alloc ?_ _) | (with_reducible refine Kd.C_drewN ?_ _) | (with_reducible refine Kd.C_drew ?_))); (case side2 => exact (Kd.R_reads' HO420.out).2.1); rintro e w70 ⟨rfl, hb⟩; have n0_ := Aside0.mk (Kd.R_below (by (with_reducible repeat (first | apply Kd.R_alloc | apply Kd.R_drewN | apply Kd.R_drew)); exact HO_6.out) hb); have n1_ := Aside0.mk (Kd.R_below (by (with_reducible repeat (first | apply Kd.R_alloc | apply Kd.R_drewN | apply Kd.R_drew)); exact HO_12.out) hb); have n2_ := Aside0.mk (Kd.R_below (by (with_reducible repeat (first | apply Kd.R_alloc | apply Kd.R_drewN | apply Kd.R_drew)); exact HO420.out) hb); have n3_ := Aside0.mk (below_step (by repeat (first | (with_reducible first | exact HB.out | apply below_alloc | apply pw_below_drewN | apply below_drew1) | exact HB.out)) hb); clear HO_6; clear HO_12; clear HO420; clear HB; have HO_6 := n0_; have HO_12 := n1_; have HO420 := n2_; have HB := n3_; clear n0_ n1_ n2_ n3_; (try clear hb); (try clear hb2); (try clear hk); (try clear hi)))
                        go_ret
                        exact ⟨by first | rfl | (simp [errW_none, errW_some] <;> rfl) | (simp [*, errW_none, errW_some] <;> rfl), by repeat (first | (with_reducible first | exact HB.out | apply below_alloc | apply pw_below_drewN | apply below_drew1) | exact HB.out)⟩
                      · rw [if_neg c63] at H
                        have c63b0 : ((wrap64 (t380 * t415)) == t417) = false := beq_eq_false_iff_ne.mpr c63
                        have c63b1 : ((wrap64 (t380 * t415)) != t417) = true := bne_iff_ne.mpr c63
                        exact absurd (Option.some.inj H) (by simp)
                    · rw [if_neg c59] at H
                      have c59b0 : (t380 == 1) = false := beq_eq_false_iff_ne.mpr c59
                      have c59b1 : (t380 != 1) = true := bne_iff_ne.mpr c59
                      by_cases c71 : x11_2 = t380
                      · rw [if_pos c71] at H
                        have c71b0 : (x11_2 == t380) = true := beq_iff_eq.mpr c71
                        have c71b1 : (x11_2 != t380) = false := bne_eq_false_iff_eq.mpr c71
                        clear c71
                        replace H := Option.bind_eq_some_iff.mp H
                        obtain ⟨t422, A720, H⟩ := H
                        replace H : ((spec_SizeOf.f k2 t377).bind fun t423 => ((laws_factorial.f k2 t423).bind fun t424 => (if (wrap64 (t380 * t422)) = t424 then ((spec_Conjugate.f k2 t377).bind fun t425 => ((impl_StandardCount.f k2 t425).bind fun t428 => (some (t428 == t380)))) else (some false)))) = some true := H
                        have A72 := Aside0.mk A720
                        clear A720
                        replace H := Option.bind_eq_some_iff.mp H
                        obtain ⟨t423, A730, H⟩ := H
                        replace H : ((laws_factorial.f k2 t423).bind fun t424 => (if (wrap64 (t380 * t422)) = t424 then ((spec_Conjugate.f k2 t377).bind fun t425 => ((impl_StandardCount.f k2 t425).bind fun t428 => (some (t428 == t380)))) else (some false))) = some true := H
                        have A73 := Aside0.mk A730
                        clear A730
                        replace H := Option.bind_eq_some_iff.mp H
                        obtain ⟨t424, A740, H⟩ := H
                        replace H : (if (wrap64 (t380 * t422)) = t424 then ((spec_Conjugate.f k2 t377).bind fun t425 => ((impl_StandardCount.f k2 t425).bind fun t428 => (some (t428 == t380)))) else (some false)) = some true := H
                        have A74 := Aside0.mk A740
                        clear A740
                        by_cases c75 : (wrap64 (t380 * t422)) = t424
                        · rw [if_pos c75] at H
                          have c75b0 : ((wrap64 (t380 * t422)) == t424) = true := beq_iff_eq.mpr c75
                          have c75b1 : ((wrap64 (t380 * t422)) != t424) = false := bne_eq_false_iff_eq.mpr c75
                          clear c75
                          replace H := Option.bind_eq_some_iff.mp H
                          obtain ⟨t425, A760, H⟩ := H
                          replace H : ((impl_StandardCount.f k2 t425).bind fun t428 => (some (t428 == t380))) = some true := H
                          have A76 := Aside0.mk A760
                          clear A760
                          replace H := Option.bind_eq_some_iff.mp H
                          obtain ⟨t428, A770, H⟩ := H
                          replace H : (some (t428 == t380)) = some true := H
                          have A77 := Aside0.mk A770
                          clear A770
                          have hres_ := Option.some.inj H
                          clear H
                          obtain ⟨Ao78, co78, eo78⟩ := Kd.R_slice HO_12.out
                          subst eo78
                          go_wp2_with (first | (go_at_call 21; (with_reducible refine (impl_HookProduct.calls k2 _ _ t377 t422 _ ?side1 ?side2 A72.out).mono ?_); (case side1 => repeat (first | exact (Kd.R_reads' HO_6.out).2.2 | (with_reducible refine Kd.C_alloc ?_ _) | (with_reducible refine Kd.C_drewN ?_ _) | (with_reducible refine Kd.C_drew ?_))); (case side2 => exact (Kd.R_reads' HO_6.out).2.1); rintro e w79 ⟨rfl, hb⟩; have n0_ := Aside0.mk (Kd.R_below (by (with_reducible repeat (first | apply Kd.R_alloc | apply Kd.R_drewN | apply Kd.R_drew)); exact HO_6.out) hb); have n1_ := Aside0.mk (Kd.R_below (by (with_reducible repeat (first | apply Kd.R_alloc | apply Kd.R_drewN | apply Kd.R_drew)); exact HO_12.out) hb); have n2_ := Aside0.mk (below_step (by repeat (first | (with_reducible first | exact HB.out | apply below_alloc | apply pw_below_drewN | apply below_drew1) | exact HB.out)) hb); clear HO_6; clear HO_12; clear HB; have HO_6 := n0_; have HO_12 := n1_; have HB := n2_; clear n0_ n1_ n2_; (try clear hb); (try clear hb2); (try clear hk); (try clear hi)) | (go_at_call 29; (with_reducible refine (spec_SizeOf.calls k2 _ _ t377 t423 _ ?side1 ?side2 A73.out).mono ?_); (case side1 => repeat (first | exact (Kd.R_reads' HO_6.out).2.2 | (with_reducible refine Kd.C_alloc ?_ _) | (with_reducible refine Kd.C_drewN ?_ _) | (with_reducible refine Kd.C_drew ?_))); (case side2 => exact (Kd.R_reads' HO_6.out).2.1); rintro e w' ⟨rfl, ⟨nd, rfl⟩⟩) | (go_at_call 28; (with_reducible refine (laws_factorial.calls k2 t423 t424 _ A74.out).mono ?_); rintro e w' ⟨rfl, ⟨nd, rfl⟩⟩) | (go_at_call 30; (with_reducible refine (spec_Conjugate.calls k2 _ _ t377 t425 _ ?side1 ?side2 A76.out).mono ?_); (case side1 => repeat (first | exact (Kd.R_reads' HO_6.out).2.2 | (with_reducible refine Kd.C_alloc ?_ _) | (with_reducible refine Kd.C_drewN ?_ _) | (with_reducible refine Kd.C_drew ?_))); (case side2 => exact (Kd.R_reads' HO_6.out).2.1); rintro e w80 ⟨v426, rfl, ho0, hb⟩; have n0_ := Aside0.mk (Kd.R_elder' (by (with_reducible repeat (first | apply Kd.R_alloc | apply Kd.R_drewN | apply Kd.R_drew)); exact HO_6.out) (Kd.R_base ho0) hb); have n1_ := Aside0.mk (Kd.R_elder' (by (with_reducible repeat (first | apply Kd.R_alloc | apply Kd.R_drewN | apply Kd.R_drew)); exact HO_12.out) (Kd.R_base ho0) hb); have n2_ := Aside0.mk (Kd.R_lower (Kd.R_new' (Kd.R_new' ho0 (Kd.R_lt (by (with_reducible repeat (first | apply Kd.R_alloc | apply Kd.R_drewN | apply Kd.R_drew)); exact HO_6.out))) (Kd.R_lt (by (with_reducible repeat (first | apply Kd.R_alloc | apply Kd.R_drewN | apply Kd.R_drew)); exact HO_12.out))) (below_size (by repeat (first | (with_reducible first | exact HB.out | apply below_alloc | apply pw_below_drewN | apply below_drew1) | exact HB.out)))); have n3_ := Aside0.mk (below_step (by repeat (first | (with_reducible first | exact HB.out | apply below_alloc | apply pw_below_drewN | apply below_drew1) | exact HB.out)) hb); clear HO_6; clear HO_12; clear HB; have HO_6 := n0_; have HO_12 := n1_; have HO427 := n2_; have HB := n3_; clear n0_ n1_ n2_ n3_; (try clear hb); (try clear hb2); (try clear hk); (try clear hi); (try clear ho0); obtain ⟨Ao81, co81, eo81⟩ := Kd.R_slice HO427.out; subst eo81) | (go_at_call 7; (with_reducible refine (impl_StandardCount.calls k2 _ _ t425 t428 _ ?side1 ?side2 A77.out).mono ?_); (case side1 => repeat (first | exact (Kd.R_reads' HO427.out).2.2 | (with_reducible refine Kd.C_alloc ?_ _) | (with_reducible refine Kd.C_drewN ?_ _) | (with_reducible refine Kd.C_drew ?_))); (case side2 => exact (Kd.R_reads' HO427.out).2.1); rintro e w82 ⟨rfl, hb⟩; have n0_ := Aside0.mk (Kd.R_below (by (with_reducible repeat (first | apply Kd.R_alloc | apply Kd.R_drewN | apply Kd.R_drew)); exact HO_6.out) hb); have n1_ := Aside0.mk (Kd.R_below (by (with_reducible repeat (first | apply Kd.R_alloc | apply Kd.R_drewN | apply Kd.R_drew)); exact HO_12.out) hb); have n2_ := Aside0.mk (Kd.R_below (by (with_reducible repeat (first | apply Kd.R_alloc | apply Kd.R_drewN | apply Kd.R_drew)); exact HO427.out) hb); have n3_ := Aside0.mk (below_step (by repeat (first | (with_reducible first | exact HB.out | apply below_alloc | apply pw_below_drewN | apply below_drew1) | exact HB.out)) hb); clear HO_6; clear HO_12; clear HO427; clear HB; have HO_6 := n0_; have HO_12 := n1_; have HO427 := n2_; have HB := n3_; clear n0_ n1_ n2_ n3_; (try clear hb); (try clear hb2); (try clear hk); (try clear hi)))
                          go_ret
                          exact ⟨by first | rfl | (simp [errW_none, errW_some] <;> rfl) | (simp [*, errW_none, errW_some] <;> rfl), by repeat (first | (with_reducible first | exact HB.out | apply below_alloc | apply pw_below_drewN | apply below_drew1) | exact HB.out)⟩
                        · rw [if_neg c75] at H
                          have c75b0 : ((wrap64 (t380 * t422)) == t424) = false := beq_eq_false_iff_ne.mpr c75
                          have c75b1 : ((wrap64 (t380 * t422)) != t424) = true := bne_iff_ne.mpr c75
                          exact absurd (Option.some.inj H) (by simp)
                      · rw [if_neg c71] at H
                        have c71b0 : (x11_2 == t380) = false := beq_eq_false_iff_ne.mpr c71
                        have c71b1 : (x11_2 != t380) = true := bne_iff_ne.mpr c71
                        exact absurd (Option.some.inj H) (by simp)
                  · rw [if_neg c58] at H
                    have c58b0 : ((t377.length : Int) == 0) = false := beq_eq_false_iff_ne.mpr c58
                    have c58b1 : ((t377.length : Int) != 0) = true := bne_iff_ne.mpr c58
                    have c58b2 : ¬ (t377 = []) := fun h_ => c58 (by rw [h_]; rfl)
                    by_cases c83 : x11_2 = t380
                    · rw [if_pos c83] at H
                      have c83b0 : (x11_2 == t380) = true := beq_iff_eq.mpr c83
                      have c83b1 : (x11_2 != t380) = false := bne_eq_false_iff_eq.mpr c83
                      clear c83
                      replace H := Option.bind_eq_some_iff.mp H
                      obtain ⟨t429, A840, H⟩ := H
                      replace H : ((spec_SizeOf.f k2 t377).bind fun t430 => ((laws_factorial.f k2 t430).bind fun t431 => (if (wrap64 (t380 * t429)) = t431 then ((spec_Conjugate.f k2 t377).bind fun t432 => ((impl_StandardCount.f k2 t432).bind fun t435 => (some (t435 == t380)))) else (some false)))) = some true := H
                      have A84 := Aside0.mk A840
                      clear A840
                      replace H := Option.bind_eq_some_iff.mp H
                      obtain ⟨t430, A850, H⟩ := H
                      replace H : ((laws_factorial.f k2 t430).bind fun t431 => (if (wrap64 (t380 * t429)) = t431 then ((spec_Conjugate.f k2 t377).bind fun t432 => ((impl_StandardCount.f k2 t432).bind fun t435 => (some (t435 == t380)))) else (some false))) = some true := H
                      have A85 := Aside0.mk A850
                      clear A850
                      replace H := Option.bind_eq_some_iff.mp H
                      obtain ⟨t431, A860, H⟩ := H
                      replace H : (if (wrap64 (t380 * t429)) = t431 then ((spec_Conjugate.f k2 t377).bind fun t432 => ((impl_StandardCount.f k2 t432).bind fun t435 => (some (t435 == t380)))) else (some false)) = some true := H
                      have A86 := Aside0.mk A860
                      clear A860
                      by_cases c87 : (wrap64 (t380 * t429)) = t431
                      · rw [if_pos c87] at H
                        have c87b0 : ((wrap64 (t380 * t429)) == t431) = true := beq_iff_eq.mpr c87
                        have c87b1 : ((wrap64 (t380 * t429)) != t431) = false := bne_eq_false_iff_eq.mpr c87
                        clear c87
                        replace H := Option.bind_eq_some_iff.mp H
                        obtain ⟨t432, A880, H⟩ := H
                        replace H : ((impl_StandardCount.f k2 t432).bind fun t435 => (some (t435 == t380))) = some true := H
                        have A88 := Aside0.mk A880
                        clear A880
                        replace H := Option.bind_eq_some_iff.mp H
                        obtain ⟨t435, A890, H⟩ := H
                        replace H : (some (t435 == t380)) = some true := H
                        have A89 := Aside0.mk A890
                        clear A890
                        have hres_ := Option.some.inj H
                        clear H
                        obtain ⟨Ao90, co90, eo90⟩ := Kd.R_slice HO_12.out
                        subst eo90
                        go_wp2_with (first | (go_at_call 21; (with_reducible refine (impl_HookProduct.calls k2 _ _ t377 t429 _ ?side1 ?side2 A84.out).mono ?_); (case side1 => repeat (first | exact (Kd.R_reads' HO_6.out).2.2 | (with_reducible refine Kd.C_alloc ?_ _) | (with_reducible refine Kd.C_drewN ?_ _) | (with_reducible refine Kd.C_drew ?_))); (case side2 => exact (Kd.R_reads' HO_6.out).2.1); rintro e w91 ⟨rfl, hb⟩; have n0_ := Aside0.mk (Kd.R_below (by (with_reducible repeat (first | apply Kd.R_alloc | apply Kd.R_drewN | apply Kd.R_drew)); exact HO_6.out) hb); have n1_ := Aside0.mk (Kd.R_below (by (with_reducible repeat (first | apply Kd.R_alloc | apply Kd.R_drewN | apply Kd.R_drew)); exact HO_12.out) hb); have n2_ := Aside0.mk (below_step (by repeat (first | (with_reducible first | exact HB.out | apply below_alloc | apply pw_below_drewN | apply below_drew1) | exact HB.out)) hb); clear HO_6; clear HO_12; clear HB; have HO_6 := n0_; have HO_12 := n1_; have HB := n2_; clear n0_ n1_ n2_; (try clear hb); (try clear hb2); (try clear hk); (try clear hi)) | (go_at_call 29; (with_reducible refine (spec_SizeOf.calls k2 _ _ t377 t430 _ ?side1 ?side2 A85.out).mono ?_); (case side1 => repeat (first | exact (Kd.R_reads' HO_6.out).2.2 | (with_reducible refine Kd.C_alloc ?_ _) | (with_reducible refine Kd.C_drewN ?_ _) | (with_reducible refine Kd.C_drew ?_))); (case side2 => exact (Kd.R_reads' HO_6.out).2.1); rintro e w' ⟨rfl, ⟨nd, rfl⟩⟩) | (go_at_call 28; (with_reducible refine (laws_factorial.calls k2 t430 t431 _ A86.out).mono ?_); rintro e w' ⟨rfl, ⟨nd, rfl⟩⟩) | (go_at_call 30; (with_reducible refine (spec_Conjugate.calls k2 _ _ t377 t432 _ ?side1 ?side2 A88.out).mono ?_); (case side1 => repeat (first | exact (Kd.R_reads' HO_6.out).2.2 | (with_reducible refine Kd.C_alloc ?_ _) | (with_reducible refine Kd.C_drewN ?_ _) | (with_reducible refine Kd.C_drew ?_))); (case side2 => exact (Kd.R_reads' HO_6.out).2.1); rintro e w92 ⟨v433, rfl, ho0, hb⟩; have n0_ := Aside0.mk (Kd.R_elder' (by (with_reducible repeat (first | apply Kd.R_alloc | apply Kd.R_drewN | apply Kd.R_drew)); exact HO_6.out) (Kd.R_base ho0) hb); have n1_ := Aside0.mk (Kd.R_elder' (by (with_reducible repeat (first | apply Kd.R_alloc | apply Kd.R_drewN | apply Kd.R_drew)); exact HO_12.out) (Kd.R_base ho0) hb); have n2_ := Aside0.mk (Kd.R_lower (Kd.R_new' (Kd.R_new' ho0 (Kd.R_lt (by (with_reducible repeat (first | apply Kd.R_alloc | apply Kd.R_drewN | apply Kd.R_drew)); exact HO_6.out))) (Kd.R_lt (by (with_reducible repeat (first | apply Kd.R_alloc | apply Kd.R_drewN | apply Kd.R_drew)); exact HO_12.out))) (below_size (by repeat (first | (with_reducible first | exact HB.out | apply below_alloc | apply pw_below_drewN | apply below_drew1) | exact HB.out)))); have n3_ := Aside0.mk (below_step (by repeat (first | (with_reducible first | exact HB.out | apply below_alloc | apply pw_below_drewN | apply below_drew1) | exact HB.out)) hb); clear HO_6; clear HO_12; clear HB; have HO_6 := n0_; have HO_12 := n1_; have HO434 := n2_; have HB := n3_; clear n0_ n1_ n2_ n3_; (try clear hb); (try clear hb2); (try clear hk); (try clear hi); (try clear ho0); obtain ⟨Ao93, co93, eo93⟩ := Kd.R_slice HO434.out; subst eo93) | (go_at_call 7; (with_reducible refine (impl_StandardCount.calls k2 _ _ t432 t435 _ ?side1 ?side2 A89.out).mono ?_); (case side1 => repeat (first | exact (Kd.R_reads' HO434.out).2.2 | (with_reducible refine Kd.C_alloc ?_ _) | (with_reducible refine Kd.C_drewN ?_ _) | (with_reducible refine Kd.C_drew ?_))); (case side2 => exact (Kd.R_reads' HO434.out).2.1); rintro e w94 ⟨rfl, hb⟩; have n0_ := Aside0.mk (Kd.R_below (by (with_reducible repeat (first | apply Kd.R_alloc | apply Kd.R_drewN | apply Kd.R_drew)); exact HO_6.out) hb); have n1_ := Aside0.mk (Kd.R_below (by (with_reducible repeat (first | apply Kd.R_alloc | apply Kd.R_drewN | apply Kd.R_drew)); exact HO_12.out) hb); have n2_ := Aside0.mk (Kd.R_below (by (with_reducible repeat (first | apply Kd.R_alloc | apply Kd.R_drewN | apply Kd.R_drew)); exact HO434.out) hb); have n3_ := Aside0.mk (below_step (by repeat (first | (with_reducible first | exact HB.out | apply below_alloc | apply pw_below_drewN | apply below_drew1) | exact HB.out)) hb); clear HO_6; clear HO_12; clear HO434; clear HB; have HO_6 := n0_; have HO_12 := n1_; have HO434 := n2_; have HB := n3_; clear n0_ n1_ n2_ n3_; (try clear hb); (try clear hb2); (try clear hk); (try clear hi)))
                        go_ret
                        exact ⟨by first | rfl | (simp [errW_none, errW_some] <;> rfl) | (simp [*, errW_none, errW_some] <;> rfl), by repeat (first | (with_reducible first | exact HB.out | apply below_alloc | apply pw_below_drewN | apply below_drew1) | exact HB.out)⟩
                      · rw [if_neg c87] at H
                        have c87b0 : ((wrap64 (t380 * t429)) == t431) = false := beq_eq_false_iff_ne.mpr c87
                        have c87b1 : ((wrap64 (t380 * t429)) != t431) = true := bne_iff_ne.mpr c87
                        exact absurd (Option.some.inj H) (by simp)
                    · rw [if_neg c83] at H
                      have c83b0 : (x11_2 == t380) = false := beq_eq_false_iff_ne.mpr c83
                      have c83b1 : (x11_2 != t380) = true := bne_iff_ne.mpr c83
                      exact absurd (Option.some.inj H) (by simp)
          · replace c47 := Bool.eq_false_iff.mpr c47
            subst c47
            have H1 : (some (t380 == 0)) = some true := by rw [if_neg (show ¬ (false = true) by decide)] at H; exact H
            clear H
            have H := H1
            clear H1
            have hres_ := Option.some.inj H
            clear H
            go_wp2_with (first | ((with_reducible refine gate_callee (f := 25) rfl ?_); refine goesL_ (some 107) rfl rfl Try.func25 (by kernel_rfl) rfl #[.slice Ao12 t377.length co12] rfl (by (try simp only [List.map_toArray, List.map_cons, List.map_nil]); first | done | rfl | (simp only [List.length_drop, List.length_take]; rfl)) ?_; (with_reducible refine (spec_IsPartition.calls kj8 _ _ t377 false _ ?side1 ?side2 A46.out).mono ?_); (case side1 => repeat (first | exact (Kd.R_reads' HO_6.out).2.2 | (with_reducible refine Kd.C_alloc ?_ _) | (with_reducible refine Kd.C_drewN ?_ _) | (with_reducible refine Kd.C_drew ?_))); (case side2 => exact (Kd.R_reads' HO_6.out).2.1); rintro e w' ⟨rfl, ⟨nd, rfl⟩⟩; refine ⟨_, rfl, ?_⟩) | (go_at_call 25; (with_reducible refine (spec_IsPartition.calls kj8 _ _ t377 false _ ?side1 ?side2 A46.out).mono ?_); (case side1 => repeat (first | exact (Kd.R_reads' HO_6.out).2.2 | (with_reducible refine Kd.C_alloc ?_ _) | (with_reducible refine Kd.C_drewN ?_ _) | (with_reducible refine Kd.C_drew ?_))); (case side2 => exact (Kd.R_reads' HO_6.out).2.1); rintro e w' ⟨rfl, ⟨nd, rfl⟩⟩))
            go_ret
            exact ⟨by first | rfl | (simp [errW_none, errW_some] <;> rfl) | (simp [*, errW_none, errW_some] <;> rfl), by repeat (first | (with_reducible first | exact HB.out | apply below_alloc | apply pw_below_drewN | apply below_drew1) | exact HB.out)⟩

end Go.Proofs.Ytkbomfpebhjaoaa.QFnHooks
