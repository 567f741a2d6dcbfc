/- A text of this session's own program (wip/myprint.py): functions that the law FnShapes reaches, as plain Lean functions, each with the proof that the call does just that. No condition beyond those that each statement bears. -/
import Derived.Test.YtkbomfpebhjaoaaGreatDoorQFnShapesx0
import Derived.Test.YtkbomfpebhjaoaaGreatDoorQFnShapesx1
namespace Go.Proofs.YtkbomfpebhjaoaaGreatDoor.QFnShapes
open Go.Proofs.YtkbomfpebhjaoaaGreatDoor.Short Go.RowKit Go.Proofs.YtkbomfpebhjaoaaGreatDoorW.PrintWords Go.Proofs.YtkbomfpebhjaoaaGreatDoorW.PrintLast Go.Proofs.YtkbomfpebhjaoaaGreatDoorW.PrintMore
attribute [local go_sem] max2_int min2_int max_two min_two max_three min_three max_four min_four   -- for this text's walks alone
set_option linter.unusedVariables false
set_option linter.unusedSimpArgs false

/-! ### spec_l2Bent: function 55 -/
def spec_l2Bent.f (k : Nat) (s0_0 : List Int) (s0_1 : Int) (s0_2 : Int) (a1 : Int) : Option (List Int × Int × Int) := (spec_l2Draw.f k s0_0 s0_1 s0_2 a1).bind fun bt175 => ((spec_l1Below.f s0_0 bt175.2.1 bt175.2.2 14).bind fun bt180 => (if bt180.1 = 0 then ((spec_l1PickInt.f s0_0 bt180.2.1 bt180.2.2 (([0, 5, (-1), 1, 9223372036854775807] : List Int))).bind fun bt186 => (if bt175.1.length < 17592186044416 then (some ((bt175.1 ++ [bt186.1]), bt186.2.1, bt186.2.2)) else (none))) else (if bt180.1 = 1 then ((some (([1, 1, 1, 1, 1, 1] : List Int) : List Int)).bind fun y192 => (if bt175.1.length + y192.length < 17592186044416 then (some ((bt175.1 ++ y192), bt180.2.1, bt180.2.2)) else (none))) else (some (bt175.1, bt180.2.1, bt180.2.2)))))
theorem spec_l2Bent.mono : ∀ a0 a1 a2 a3 k, LeO (spec_l2Bent.f k a0 a1 a2 a3) (spec_l2Bent.f (k + 1) a0 a1 a2 a3) := by
 intro a0 a1 a2 a3 k
 unfold spec_l2Bent.f
 repeat' first
   | (with_reducible exact spec_l2Draw.mono _ _ _ _ _)
   | (with_reducible exact LeO.refl _)
   | (with_reducible exact LeO.none _)
   | (with_reducible refine LeO.ite ?_ ?_)
   | (with_reducible refine LeO.bind ?_ (fun _ => ?_))
   | exact spec_l2Draw.mono _ _ _ _ _
   | exact LeO.none _
   | refine LeO.ite ?_ ?_
   | refine LeO.bind ?_ (fun _ => ?_)
set_option maxHeartbeats 8000000 in
set_option maxRecDepth 100000 in
theorem spec_l2Bent.calls (k : Nat) (g : Nat) (s0_0 : List Int) (s0_1 : Int) (s0_2 : Int) (a1 : Int) (r1 : List Int) (r2 : Int) (r3 : Int) (w0 w : World) (hI : IsS60 w0 w g s0_0 s0_1 s0_2) (hB : Below w0.heap.size w0 w) (h : spec_l2Bent.f k s0_0 s0_1 s0_2 a1 = some (r1, r2, r3)) :
  Calls Tryz.prog 55 #[.pointer (some ⟨g, 0, none⟩), .int .i64 a1] w fun e w' => ∃ v0_ : Value, e = .returned (v0_) ∧ Kd.R (Kd.int .i64) 3 w' w.heap.size (fun _ => True) v0_ r1 ∧ IsS60 w0 w' g s0_0 r2 r3 ∧ Below w0.heap.size w0 w' ∧ KeepBut w w' g none := by
 have HI0 := Aside0.mk hI
 have HK := Aside0.mk (KeepBut.refl w g none)
 have HL := Aside0.mk hB.size
 clear hI
 have HW0 := Aside0.mk hB.size
 have HB := Aside0.mk hB
 clear hB
 have H : ((spec_l2Draw.f k s0_0 s0_1 s0_2 a1).bind fun bt175 => ((spec_l1Below.f s0_0 bt175.2.1 bt175.2.2 14).bind fun bt180 => (if bt180.1 = 0 then ((spec_l1PickInt.f s0_0 bt180.2.1 bt180.2.2 (([0, 5, (-1), 1, 9223372036854775807] : List Int))).bind fun bt186 => (if bt175.1.length < 17592186044416 then (some ((bt175.1 ++ [bt186.1]), bt186.2.1, bt186.2.2)) else (none))) else (if bt180.1 = 1 then ((some (([1, 1, 1, 1, 1, 1] : List Int) : List Int)).bind fun y192 => (if bt175.1.length + y192.length < 17592186044416 then (some ((bt175.1 ++ y192), bt180.2.1, bt180.2.2)) else (none))) else (some (bt175.1, bt180.2.1, bt180.2.2)))))) = some (r1, r2, r3) := h
 clear h
 replace H := Option.bind_eq_some_iff.mp H
 obtain ⟨⟨t175, t178, t179⟩, A30, H⟩ := H
 replace H : ((spec_l1Below.f s0_0 t178 t179 14).bind fun bt180 => (if bt180.1 = 0 then ((spec_l1PickInt.f s0_0 bt180.2.1 bt180.2.2 (([0, 5, (-1), 1, 9223372036854775807] : List Int))).bind fun bt186 => (if t175.length < 17592186044416 then (some ((t175 ++ [bt186.1]), bt186.2.1, bt186.2.2)) else (none))) else (if bt180.1 = 1 then ((some (([1, 1, 1, 1, 1, 1] : List Int) : List Int)).bind fun y192 => (if t175.length + y192.length < 17592186044416 then (some ((t175 ++ y192), bt180.2.1, bt180.2.2)) else (none))) else (some (t175, bt180.2.1, bt180.2.2))))) = some (r1, r2, r3) := H
 have A3 := Aside0.mk A30
 clear A30
 replace H := Option.bind_eq_some_iff.mp H
 obtain ⟨⟨t180, t181, t182⟩, A40, H⟩ := H
 replace H : (if t180 = 0 then ((spec_l1PickInt.f s0_0 t181 t182 (([0, 5, (-1), 1, 9223372036854775807] : List Int))).bind fun bt186 => (if t175.length < 17592186044416 then (some ((t175 ++ [bt186.1]), bt186.2.1, bt186.2.2)) else (none))) else (if t180 = 1 then ((some (([1, 1, 1, 1, 1, 1] : List Int) : List Int)).bind fun y192 => (if t175.length + y192.length < 17592186044416 then (some ((t175 ++ y192), t181, t182)) else (none))) else (some (t175, t181, t182)))) = some (r1, r2, r3) := H
 have A4 := Aside0.mk A40
 clear A40
 by_cases c5 : t180 = 0
 ·rw [if_pos c5] at H
  have c5b0 : (t180 == 0) = true := beq_iff_eq.mpr c5
  have c5b1 : (t180 != 0) = false := bne_eq_false_iff_eq.mpr c5
  clear c5
  obtain ⟨y183, hy183⟩ : ∃ y_ : List Int, y_ = (([0, 5, (-1), 1, 9223372036854775807] : List Int)) := ⟨_, rfl⟩
  replace H : ((spec_l1PickInt.f s0_0 t181 t182 y183).bind fun bt186 => (if t175.length < 17592186044416 then (some ((t175 ++ [bt186.1]), bt186.2.1, bt186.2.2)) else (none))) = some (r1, r2, r3) := by first | (rw [hy183]; with_reducible exact H) | (have H2_ := (Option.bind_some _ _).symm.trans H; rw [hy183]; with_reducible exact H2_) | (have H2_ := (Option.bind_some _ _).symm.trans H; with_reducible exact H2_) | with_reducible exact H | (rw [hy183]; exact H) | exact H
  have Ny183 := Aside0.mk hy183
  clear hy183
  replace H := Option.bind_eq_some_iff.mp H
  obtain ⟨⟨t186, t187, t188⟩, A60, H⟩ := H
  replace H : (if t175.length < 17592186044416 then (some ((t175 ++ [t186]), t187, t188)) else (none)) = some (r1, r2, r3) := H
  have A6 := Aside0.mk A60
  clear A60
  by_cases c7 : t175.length < 17592186044416
  ·rw [if_pos c7] at H
   have LMc7 := Aside0.mk c7
   clear c7
   obtain ⟨y189, hy189⟩ : ∃ y_ : List Int, y_ = (t175 ++ [t186]) := ⟨_, rfl⟩
   replace H : (some (y189, t187, t188)) = some (r1, r2, r3) := by first | (rw [hy189]; with_reducible exact H) | (have H2_ := (Option.bind_some _ _).symm.trans H; rw [hy189]; with_reducible exact H2_) | (have H2_ := (Option.bind_some _ _).symm.trans H; with_reducible exact H2_) | with_reducible exact H | (rw [hy189]; exact H) | exact H
   have Ny189 := Aside0.mk hy189
   clear hy189
   simp only [Option.some.injEq, Prod.mk.injEq] at H
   obtain ⟨rfl, rfl, rfl⟩ := H
   go_enter Tryz.func55, Tryz.ntmps55
   go_wp2_with (first | ((with_reducible refine gate_callee (f := 60) rfl ?_); refine goesL_ (some 8) rfl rfl Tryz.func60 (by kernel_rfl) rfl #[.pointer (some ⟨g, 0, none⟩), .int .i64 a1] rfl lm ?_; (with_reducible refine (spec_l2Draw.calls k g s0_0 s0_1 s0_2 a1 t175 t178 t179 w0 _ (inow HI0.out) (bi HB.out) A3.out).mono ?_); rintro e w8 ⟨v176, rfl, ho0, hi, hb, hk⟩; refine ⟨_, rfl, ?_⟩; have HO177 := Aside0.mk (Kd.R_lower ho0 (keep_size (w := w) (g := g) (row := none) (know HK.out))); replace HK := Aside0.mk (KeepBut.trans (know HK.out) hk (.inl rfl)); replace HB := Aside0.mk (hb); replace HI0 := Aside0.mk (hi); (try clear hb); (try clear hb2); (try clear hk); (try clear hi); (try clear ho0)) | ((with_reducible refine gate_callee (f := 54) rfl ?_); refine goesL_ (some 10) rfl rfl Tryz.func54 (by kernel_rfl) rfl #[.pointer (some ⟨g, 0, none⟩), .int .i64 14] rfl lm ?_; (with_reducible refine (spec_l1Below.calls g s0_0 t178 t179 14 t180 t181 t182 w0 _ (inow HI0.out) (bi HB.out) A4.out).mono ?_); rintro e w9 ⟨rfl, hi, hb, hk⟩; refine ⟨_, rfl, ?_⟩; replace HO177 := Aside0.mk (Kd.R_mono (Kd.R_keep (IsS60.apart (show IsS60 w0 _ g s0_0 t178 t179 from inow HI0.out) (rk HO177.out) (by decide)) hk (fun _ h => h.2)) (fun _ h => h.1)); replace HK := Aside0.mk (KeepBut.trans (know HK.out) hk (.inl rfl)); replace HB := Aside0.mk (hb); replace HI0 := Aside0.mk (hi); (try clear hb); (try clear hb2); (try clear hk); (try clear hi)) | ((with_reducible refine gate_dst (N := 15) rfl ?_); refine Kd.R_lit (Kd.int .i64) _ 3 ?hg (N := 15) ?hd (xs := ([0, 5, (-1), 1, 9223372036854775807] : List Int)) (inner := [.int .i64 0, .int .i64 5, .int .i64 (-1), .int .i64 1, .int .i64 9223372036854775807]) (ok := fun _ => True) (okp := fun _ => True) ?hr ?hp (fun _ hk => hk) trivial (Below.refl _ _) (Nat.le_refl _) (by simp) ?_; (case hd => rfl); (case hg => rfl); (case hr => first | (go_simp; done) | (go_simp; rfl)); (case hp => exact (Reps.one (show Kd.M (Kd.int .i64) _ _ _ 0 [.int .i64 0] from rfl) (Reps.one (show Kd.M (Kd.int .i64) _ _ _ 5 [.int .i64 5] from rfl) (Reps.one (show Kd.M (Kd.int .i64) _ _ _ (-1) [.int .i64 (-1)] from rfl) (Reps.one (show Kd.M (Kd.int .i64) _ _ _ 1 [.int .i64 1] from rfl) (Reps.one (show Kd.M (Kd.int .i64) _ _ _ 9223372036854775807 [.int .i64 9223372036854775807] from rfl) (Reps.none _ _))))))); intro v184 w10 ho11 hb hg_ hnew_; clear hg_ hnew_; (first | rw [← Ny183.out] at ho11 | (simp only [Int.reduceToNat] at ho11; rw [← Ny183.out] at ho11)); have HO185 := Aside0.mk (Kd.R_lower (Kd.R_new' ho11 (Kd.R_lt (rk HO177.out))) (keep_size (w := w) (g := g) (row := none) (know HK.out))); replace HO177 := Aside0.mk (Kd.R_elder' (rk HO177.out) (Kd.R_base ho11) hb); replace HI0 := Aside0.mk (IsS60.below (inow HI0.out) hb); replace HK := Aside0.mk (KeepBut.trans (know HK.out) (KeepBut.of_below hb g none) (.inl rfl)); replace HB := Aside0.mk (below_step (bi HB.out) hb); clear hb ho11; obtain ⟨Ao12, co12, eo12⟩ := Kd.R_slice HO185.out; subst eo12) | ((with_reducible refine gate_callee (f := 71) rfl ?_); refine goesL_ (some 16) rfl rfl Tryz.func71 (by kernel_rfl) rfl #[.pointer (some ⟨g, 0, none⟩), .slice Ao12 y183.length co12] rfl lm ?_; (with_reducible refine (spec_l1PickInt.calls g s0_0 t181 t182 _ _ y183 t186 t187 t188 w0 _ ?side1 ?side2 ?side3 ?side4 ?side5 A6.out).mono ?_); (case side1 => exact inow HI0.out); (case side2 => exact bi HB.out); (case side3 => repeat (first | exact (Kd.R_reads' HO185.out).2.2 | (with_reducible refine Kd.C_alloc ?_ _) | (with_reducible refine Kd.C_drewN ?_ _) | (with_reducible refine Kd.C_drew ?_))); (case side4 => exact (Kd.R_reads' HO185.out).2.1); (case side5 => exact far_slice (IsS60.own_ne HI0.out HO185.out (by decide))); rintro e w13 ⟨rfl, hi, hb, hk⟩; refine ⟨_, rfl, ?_⟩; replace HO177 := Aside0.mk (Kd.R_mono (Kd.R_keep (IsS60.apart (show IsS60 w0 _ g s0_0 t181 t182 from inow HI0.out) (rk HO177.out) (by decide)) hk (fun _ h => h.2)) (fun _ h => h.1)); replace HO185 := Aside0.mk (Kd.R_mono (Kd.R_keep (IsS60.apart (show IsS60 w0 _ g s0_0 t181 t182 from inow HI0.out) (rk HO185.out) (by decide)) hk (fun _ h => h.2)) (fun _ h => h.1)); replace HK := Aside0.mk (KeepBut.trans (know HK.out) hk (.inl rfl)); replace HB := Aside0.mk (hb); replace HI0 := Aside0.mk (hi); (try clear hb); (try clear hb2); (try clear hk); (try clear hi)) | ((with_reducible refine gate_builtin (b := .append) (xs := #[.tmp 13, .tmp 17]) rfl ?_); at_builtin; refine Kd.R_append (Kd.int .i64) w.heap.size rfl (.tmp 13) (.tmp 17) 24 3 (.int .i64 0) 8 rfl Tryz.underlying24 info3 rfl (by decide) (by omega) v176 t175 t186 [.int .i64 t186] (fun k_ => some k_ ≠ (.slice Ao12 y183.length co12 : Value).ownBlock) (fun _ => False) rfl rfl ?aP (fun _ hk => hk.elim) ?aF ?aO (Below.refl _ _) ?aS ?aL ?_; (case aP => exact rfl); (case aF => exact (fun k_ hk => Kd.fresh' (Kd.R_lt (rk HO185.out)) k_ hk)); (case aO => exact (by (with_reducible repeat (first | apply Kd.R_alloc | apply Kd.R_drewN | apply Kd.R_drew)); exact Kd.R_mono HO177.out (fun _ hk => hk.2))); (case aS => exact (keep_size (w := w) (g := g) (row := none) (know HK.out))); (case aL => have := LMc7.out; omega); intro v190 w14 ho hb hg hat; rw [← Ny189.out] at ho; replace HI0 := Aside0.mk (IsS60.grown (inow HI0.out) hg (IsS60.own_ne HI0.out HO177.out (by decide))); replace HO185 := Aside0.mk (Kd.R_after (ok := (fun _ => True)) (rk HO185.out) hg hat); replace HB := Aside0.mk (below_weaken (bi HB.out) HL.out hb); replace HK := Aside0.mk (KeepBut.trans (know HK.out) (KeepBut.of_grown hg g) (Kd.R_base2 HO177.out)); have HO191 := Aside0.mk (ho); clear HO177; clear ho hb hg hat))
   go_ret
   exact ⟨_, by first | rfl | (simp [errW_none, errW_some] <;> rfl) | (simp [*, errW_none, errW_some] <;> rfl), by (with_reducible repeat (first | apply Kd.R_alloc | apply Kd.R_drewN | apply Kd.R_drew)); exact Kd.R_mono HO191.out (fun _ hk => trivial), inow HI0.out, bi HB.out, know HK.out⟩
  ·rw [if_neg c7] at H
   exact absurd H (by simp)
 ·rw [if_neg c5] at H
  have c5b0 : (t180 == 0) = false := beq_eq_false_iff_ne.mpr c5
  have c5b1 : (t180 != 0) = true := bne_iff_ne.mpr c5
  by_cases c15 : t180 = 1
  ·rw [if_pos c15] at H
   have c15b0 : (t180 == 1) = true := beq_iff_eq.mpr c15
   have c15b1 : (t180 != 1) = false := bne_eq_false_iff_eq.mpr c15
   clear c15
   obtain ⟨y192, hy192⟩ : ∃ y_ : List Int, y_ = (([1, 1, 1, 1, 1, 1] : List Int)) := ⟨_, rfl⟩
   replace H : (if t175.length + y192.length < 17592186044416 then (some ((t175 ++ y192), t181, t182)) else (none)) = some (r1, r2, r3) := by first | (rw [hy192]; with_reducible exact H) | (have H2_ := (Option.bind_some _ _).symm.trans H; rw [hy192]; with_reducible exact H2_) | (have H2_ := (Option.bind_some _ _).symm.trans H; with_reducible exact H2_) | with_reducible exact H | (rw [hy192]; exact H) | exact H
   have Ny192 := Aside0.mk hy192
   clear hy192
   by_cases c16 : t175.length + y192.length < 17592186044416
   ·rw [if_pos c16] at H
    have LMc16 := Aside0.mk c16
    clear c16
    obtain ⟨y195, hy195⟩ : ∃ y_ : List Int, y_ = (t175 ++ y192) := ⟨_, rfl⟩
    replace H : (some (y195, t181, t182)) = some (r1, r2, r3) := by first | (rw [hy195]; with_reducible exact H) | (have H2_ := (Option.bind_some _ _).symm.trans H; rw [hy195]; with_reducible exact H2_) | (have H2_ := (Option.bind_some _ _).symm.trans H; with_reducible exact H2_) | with_reducible exact H | (rw [hy195]; exact H) | exact H
    have Ny195 := Aside0.mk hy195
    clear hy195
    simp only [Option.some.injEq, Prod.mk.injEq] at H
    obtain ⟨rfl, rfl, rfl⟩ := H
    go_enter Tryz.func55, Tryz.ntmps55
    go_wp2_with (first | ((with_reducible refine gate_callee (f := 60) rfl ?_); refine goesL_ (some 8) rfl rfl Tryz.func60 (by kernel_rfl) rfl #[.pointer (some ⟨g, 0, none⟩), .int .i64 a1] rfl lm ?_; (with_reducible refine (spec_l2Draw.calls k g s0_0 s0_1 s0_2 a1 t175 t178 t179 w0 _ (inow HI0.out) (bi HB.out) A3.out).mono ?_); rintro e w17 ⟨v176, rfl, ho0, hi, hb, hk⟩; refine ⟨_, rfl, ?_⟩; have HO177 := Aside0.mk (Kd.R_lower ho0 (keep_size (w := w) (g := g) (row := none) (know HK.out))); replace HK := Aside0.mk (KeepBut.trans (know HK.out) hk (.inl rfl)); replace HB := Aside0.mk (hb); replace HI0 := Aside0.mk (hi); (try clear hb); (try clear hb2); (try clear hk); (try clear hi); (try clear ho0)) | ((with_reducible refine gate_callee (f := 54) rfl ?_); refine goesL_ (some 10) rfl rfl Tryz.func54 (by kernel_rfl) rfl #[.pointer (some ⟨g, 0, none⟩), .int .i64 14] rfl lm ?_; (with_reducible refine (spec_l1Below.calls g s0_0 t178 t179 14 t180 t181 t182 w0 _ (inow HI0.out) (bi HB.out) A4.out).mono ?_); rintro e w18 ⟨rfl, hi, hb, hk⟩; refine ⟨_, rfl, ?_⟩; replace HO177 := Aside0.mk (Kd.R_mono (Kd.R_keep (IsS60.apart (show IsS60 w0 _ g s0_0 t178 t179 from inow HI0.out) (rk HO177.out) (by decide)) hk (fun _ h => h.2)) (fun _ h => h.1)); replace HK := Aside0.mk (KeepBut.trans (know HK.out) hk (.inl rfl)); replace HB := Aside0.mk (hb); replace HI0 := Aside0.mk (hi); (try clear hb); (try clear hb2); (try clear hk); (try clear hi)) | ((with_reducible refine gate_dst (N := 22) rfl ?_); refine Kd.R_lit (Kd.int .i64) _ 3 ?hg (N := 22) ?hd (xs := ([1, 1, 1, 1, 1, 1] : List Int)) (inner := [.int .i64 1, .int .i64 1, .int .i64 1, .int .i64 1, .int .i64 1, .int .i64 1]) (ok := fun _ => True) (okp := fun _ => True) ?hr ?hp (fun _ hk => hk) trivial (Below.refl _ _) (Nat.le_refl _) (by simp) ?_; (case hd => rfl); (case hg => rfl); (case hr => first | (go_simp; done) | (go_simp; rfl)); (case hp => exact (Reps.one (show Kd.M (Kd.int .i64) _ _ _ 1 [.int .i64 1] from rfl) (Reps.one (show Kd.M (Kd.int .i64) _ _ _ 1 [.int .i64 1] from rfl) (Reps.one (show Kd.M (Kd.int .i64) _ _ _ 1 [.int .i64 1] from rfl) (Reps.one (show Kd.M (Kd.int .i64) _ _ _ 1 [.int .i64 1] from rfl) (Reps.one (show Kd.M (Kd.int .i64) _ _ _ 1 [.int .i64 1] from rfl) (Reps.one (show Kd.M (Kd.int .i64) _ _ _ 1 [.int .i64 1] from rfl) (Reps.none _ _)))))))); intro v193 w19 ho20 hb hg_ hnew_; clear hg_ hnew_; (first | rw [← Ny192.out] at ho20 | (simp only [Int.reduceToNat] at ho20; rw [← Ny192.out] at ho20)); have HO194 := Aside0.mk (Kd.R_lower (Kd.R_new' ho20 (Kd.R_lt (rk HO177.out))) (keep_size (w := w) (g := g) (row := none) (know HK.out))); replace HO177 := Aside0.mk (Kd.R_elder' (rk HO177.out) (Kd.R_base ho20) hb); replace HI0 := Aside0.mk (IsS60.below (inow HI0.out) hb); replace HK := Aside0.mk (KeepBut.trans (know HK.out) (KeepBut.of_below hb g none) (.inl rfl)); replace HB := Aside0.mk (below_step (bi HB.out) hb); clear hb ho20; obtain ⟨Ao22, co22, eo22⟩ := Kd.R_slice HO194.out; subst eo22) | ((with_reducible refine gate_builtin (b := .append) (xs := #[.tmp 21, .tmp 22]) rfl ?_); at_builtin; refine Kd.R_append_rows (Kd.int .i64) w.heap.size rfl (.tmp 21) (.tmp 22) 24 3 (.int .i64 0) 8 rfl Tryz.underlying24 info3 rfl (by decide) (by omega) v176 t175 y192 _ _ _ (fun k_ => some k_ ≠ (.slice Ao22 y192.length co22 : Value).ownBlock) (fun _ => False) rfl rfl ?aO ?aR (fun _ _ h => h) (fun _ h => h.elim) ?aF (Below.refl _ _) ?aS ?aL ?_; (case aR => repeat (first | exact (Kd.R_reads' HO194.out).2.2 | (with_reducible refine Kd.C_alloc ?_ _) | (with_reducible refine Kd.C_drewN ?_ _) | (with_reducible refine Kd.C_drew ?_))); (case aF => exact (fun k_ hk => Kd.fresh' (Kd.R_lt (rk HO194.out)) k_ hk)); (case aO => exact (by (with_reducible repeat (first | apply Kd.R_alloc | apply Kd.R_drewN | apply Kd.R_drew)); exact Kd.R_mono HO177.out (fun _ hk => hk.2))); (case aS => exact (keep_size (w := w) (g := g) (row := none) (know HK.out))); (case aL => have := LMc16.out; omega); intro v196 w21 ho hb hg hat; rw [← Ny195.out] at ho; replace HI0 := Aside0.mk (IsS60.grown (inow HI0.out) hg (IsS60.own_ne HI0.out HO177.out (by decide))); replace HO194 := Aside0.mk (Kd.R_after (ok := (fun _ => True)) (rk HO194.out) hg hat); replace HB := Aside0.mk (below_weaken (bi HB.out) HL.out hb); replace HK := Aside0.mk (KeepBut.trans (know HK.out) (KeepBut.of_grown hg g) (Kd.R_base2 HO177.out)); have HO197 := Aside0.mk (ho); clear HO177; clear ho hb hg hat))
    go_ret
    exact ⟨_, by first | rfl | (simp [errW_none, errW_some] <;> rfl) | (simp [*, errW_none, errW_some] <;> rfl), by (with_reducible repeat (first | apply Kd.R_alloc | apply Kd.R_drewN | apply Kd.R_drew)); exact Kd.R_mono HO197.out (fun _ hk => trivial), inow HI0.out, bi HB.out, know HK.out⟩
   ·rw [if_neg c16] at H
    exact absurd H (by simp)
  ·rw [if_neg c15] at H
   have c15b0 : (t180 == 1) = false := beq_eq_false_iff_ne.mpr c15
   have c15b1 : (t180 != 1) = true := bne_iff_ne.mpr c15
   simp only [Option.some.injEq, Prod.mk.injEq] at H
   obtain ⟨rfl, rfl, rfl⟩ := H
   go_enter Tryz.func55, Tryz.ntmps55
   go_wp2_with (first | ((with_reducible refine gate_callee (f := 60) rfl ?_); refine goesL_ (some 8) rfl rfl Tryz.func60 (by kernel_rfl) rfl #[.pointer (some ⟨g, 0, none⟩), .int .i64 a1] rfl lm ?_; (with_reducible refine (spec_l2Draw.calls k g s0_0 s0_1 s0_2 a1 t175 t178 t179 w0 _ (inow HI0.out) (bi HB.out) A3.out).mono ?_); rintro e w23 ⟨v176, rfl, ho0, hi, hb, hk⟩; refine ⟨_, rfl, ?_⟩; have HO177 := Aside0.mk (Kd.R_lower ho0 (keep_size (w := w) (g := g) (row := none) (know HK.out))); replace HK := Aside0.mk (KeepBut.trans (know HK.out) hk (.inl rfl)); replace HB := Aside0.mk (hb); replace HI0 := Aside0.mk (hi); (try clear hb); (try clear hb2); (try clear hk); (try clear hi); (try clear ho0)) | ((with_reducible refine gate_callee (f := 54) rfl ?_); refine goesL_ (some 10) rfl rfl Tryz.func54 (by kernel_rfl) rfl #[.pointer (some ⟨g, 0, none⟩), .int .i64 14] rfl lm ?_; (with_reducible refine (spec_l1Below.calls g s0_0 t178 t179 14 t180 t181 t182 w0 _ (inow HI0.out) (bi HB.out) A4.out).mono ?_); rintro e w24 ⟨rfl, hi, hb, hk⟩; refine ⟨_, rfl, ?_⟩; replace HO177 := Aside0.mk (Kd.R_mono (Kd.R_keep (IsS60.apart (show IsS60 w0 _ g s0_0 t178 t179 from inow HI0.out) (rk HO177.out) (by decide)) hk (fun _ h => h.2)) (fun _ h => h.1)); replace HK := Aside0.mk (KeepBut.trans (know HK.out) hk (.inl rfl)); replace HB := Aside0.mk (hb); replace HI0 := Aside0.mk (hi); (try clear hb); (try clear hb2); (try clear hk); (try clear hi)))
   go_ret
   exact ⟨_, by first | rfl | (simp [errW_none, errW_some] <;> rfl) | (simp [*, errW_none, errW_some] <;> rfl), by (with_reducible repeat (first | apply Kd.R_alloc | apply Kd.R_drewN | apply Kd.R_drew)); exact HO177.out, inow HI0.out, bi HB.out, know HK.out⟩

/-! ### spec_l4Bent: function 30 -/
def spec_l4Bent.f (k : Nat) (s0_0 : List Int) (s0_1 : Int) (s0_2 : Int) (a1 : Int) : Option (List Int × List Int × Int × Int) := (spec_l4Draw.f k s0_0 s0_1 s0_2 a1).bind fun bt199 => ((spec_l1Below.f s0_0 bt199.2.2.1 bt199.2.2.2 14).bind fun bt208 => (if bt208.1 = 0 then ((spec_l2Bent.f k s0_0 bt208.2.1 bt208.2.2 a1).bind fun bt211 => (some (bt199.1, bt211.1, bt211.2.1, bt211.2.2))) else (if bt208.1 = 1 then ((spec_l2Bent.f k s0_0 bt208.2.1 bt208.2.2 a1).bind fun bt216 => (some (bt216.1, bt199.2.1, bt216.2.1, bt216.2.2))) else (some (bt199.1, bt199.2.1, bt208.2.1, bt208.2.2)))))
theorem spec_l4Bent.mono : ∀ a0 a1 a2 a3 k, LeO (spec_l4Bent.f k a0 a1 a2 a3) (spec_l4Bent.f (k + 1) a0 a1 a2 a3) := by
 intro a0 a1 a2 a3 k
 unfold spec_l4Bent.f
 repeat' first
   | (with_reducible exact spec_l2Bent.mono _ _ _ _ _)
   | (with_reducible exact spec_l4Draw.mono _ _ _ _ _)
   | (with_reducible exact LeO.refl _)
   | (with_reducible exact LeO.none _)
   | (with_reducible refine LeO.ite ?_ ?_)
   | (with_reducible refine LeO.bind ?_ (fun _ => ?_))
   | exact spec_l2Bent.mono _ _ _ _ _
   | exact spec_l4Draw.mono _ _ _ _ _
   | exact LeO.none _
   | refine LeO.ite ?_ ?_
   | refine LeO.bind ?_ (fun _ => ?_)
set_option maxHeartbeats 8000000 in
set_option maxRecDepth 100000 in
theorem spec_l4Bent.calls (k : Nat) (g : Nat) (s0_0 : List Int) (s0_1 : Int) (s0_2 : Int) (a1 : Int) (r1 : List Int) (r2 : List Int) (r3 : Int) (r4 : Int) (w0 w : World) (hI : IsS60 w0 w g s0_0 s0_1 s0_2) (hB : Below w0.heap.size w0 w) (h : spec_l4Bent.f k s0_0 s0_1 s0_2 a1 = some (r1, r2, r3, r4)) :
  Calls Tryz.prog 30 #[.pointer (some ⟨g, 0, none⟩), .int .i64 a1] w fun e w' => ∃ v0_ v1_ : Value, e = .returned (.agg #[v0_, v1_]) ∧ Kd.R (Kd.int .i64) 3 w' w.heap.size (fun k_ => some k_ ≠ (v1_ : Value).ownBlock) v0_ r1 ∧ Kd.R (Kd.int .i64) 3 w' w.heap.size (fun k_ => some k_ ≠ (v0_ : Value).ownBlock) v1_ r2 ∧ IsS60 w0 w' g s0_0 r3 r4 ∧ Below w0.heap.size w0 w' ∧ KeepBut w w' g none := by
 have hu26 := Tryz.underlying26
 have HI0 := Aside0.mk hI
 have HK := Aside0.mk (KeepBut.refl w g none)
 have HL := Aside0.mk hB.size
 clear hI
 have HW0 := Aside0.mk hB.size
 have HB := Aside0.mk hB
 clear hB
 have H : ((spec_l4Draw.f k s0_0 s0_1 s0_2 a1).bind fun bt199 => ((spec_l1Below.f s0_0 bt199.2.2.1 bt199.2.2.2 14).bind fun bt208 => (if bt208.1 = 0 then ((spec_l2Bent.f k s0_0 bt208.2.1 bt208.2.2 a1).bind fun bt211 => (some (bt199.1, bt211.1, bt211.2.1, bt211.2.2))) else (if bt208.1 = 1 then ((spec_l2Bent.f k s0_0 bt208.2.1 bt208.2.2 a1).bind fun bt216 => (some (bt216.1, bt199.2.1, bt216.2.1, bt216.2.2))) else (some (bt199.1, bt199.2.1, bt208.2.1, bt208.2.2)))))) = some (r1, r2, r3, r4) := h
 clear h
 replace H := Option.bind_eq_some_iff.mp H
 obtain ⟨⟨t199, t202, t205, t206⟩, A30, H⟩ := H
 replace H : ((spec_l1Below.f s0_0 t205 t206 14).bind fun bt208 => (if bt208.1 = 0 then ((spec_l2Bent.f k s0_0 bt208.2.1 bt208.2.2 a1).bind fun bt211 => (some (t199, bt211.1, bt211.2.1, bt211.2.2))) else (if bt208.1 = 1 then ((spec_l2Bent.f k s0_0 bt208.2.1 bt208.2.2 a1).bind fun bt216 => (some (bt216.1, t202, bt216.2.1, bt216.2.2))) else (some (t199, t202, bt208.2.1, bt208.2.2))))) = some (r1, r2, r3, r4) := H
 have A3 := Aside0.mk A30
 clear A30
 replace H := Option.bind_eq_some_iff.mp H
 obtain ⟨⟨t208, t209, t210⟩, A40, H⟩ := H
 replace H : (if t208 = 0 then ((spec_l2Bent.f k s0_0 t209 t210 a1).bind fun bt211 => (some (t199, bt211.1, bt211.2.1, bt211.2.2))) else (if t208 = 1 then ((spec_l2Bent.f k s0_0 t209 t210 a1).bind fun bt216 => (some (bt216.1, t202, bt216.2.1, bt216.2.2))) else (some (t199, t202, t209, t210)))) = some (r1, r2, r3, r4) := H
 have A4 := Aside0.mk A40
 clear A40
 by_cases c5 : t208 = 0
 ·rw [if_pos c5] at H
  have c5b0 : (t208 == 0) = true := beq_iff_eq.mpr c5
  have c5b1 : (t208 != 0) = false := bne_eq_false_iff_eq.mpr c5
  clear c5
  replace H := Option.bind_eq_some_iff.mp H
  obtain ⟨⟨t211, t214, t215⟩, A60, H⟩ := H
  replace H : (some (t199, t211, t214, t215)) = some (r1, r2, r3, r4) := H
  have A6 := Aside0.mk A60
  clear A60
  simp only [Option.some.injEq, Prod.mk.injEq] at H
  obtain ⟨rfl, rfl, rfl, rfl⟩ := H
  go_enter Tryz.func30, Tryz.ntmps30
  go_wp2_with (first | (refine boxE 4 #[.slice none 0 0, .slice none 0 0] 26 rfl ?_; intro gb198 hg w7 hbox hb; replace HB := Aside0.mk (below_step (bi HB.out) hb); have BK198 := Aside0.mk (hbox); have GW198 := Aside0.mk ((by rw [hg]; exact (keep_size (w := w) (g := g) (row := none) (know HK.out)) : w.heap.size ≤ gb198)); have GE198 := Aside0.mk ((Nat.le_trans HW0.out (by rw [hg]; exact (keep_size (w := w) (g := g) (row := none) (know HK.out)) : w.heap.size ≤ gb198) : w0.heap.size ≤ gb198)); replace HK := Aside0.mk (KeepBut.trans (know HK.out) (KeepBut.of_below hb g none) (.inl rfl)); have NB0_198 := Aside0.mk ((by rw [hg]; exact Nat.ne_of_lt (IsS60.lt (show IsS60 w0 _ g s0_0 s0_1 s0_2 from inow HI0.out)) : g ≠ gb198)); have NB198_0 := Aside0.mk ((by rw [hg]; exact Nat.ne_of_gt (IsS60.lt (show IsS60 w0 _ g s0_0 s0_1 s0_2 from inow HI0.out)) : gb198 ≠ g)); replace HI0 := Aside0.mk (IsS60.below (inow HI0.out) hb); clear hb hbox hg) | ((with_reducible refine gate_callee (f := 37) rfl ?_); refine goesL_ (some 8) rfl rfl Tryz.func37 (by kernel_rfl) rfl #[.pointer (some ⟨g, 0, none⟩), .int .i64 a1] rfl lm ?_; (with_reducible refine (spec_l4Draw.calls k g s0_0 s0_1 s0_2 a1 t199 t202 t205 t206 w0 _ (inow HI0.out) (bi HB.out) A3.out).mono ?_); rintro e w8 ⟨v200, v203, rfl, ho0, ho1, hi, hb, hk⟩; refine ⟨_, rfl, ?_⟩; replace BK198 := Aside0.mk (KeepBut.blk hk (g' := gb198) (o := .cells #[.slice none 0 0, .slice none 0 0] 26 (0, 0)) (bk BK198.out) NB198_0.out (by simp)); have HO201 := Aside0.mk (Kd.R_lower ho0 (keep_size (w := w) (g := g) (row := none) (know HK.out))); have HO204 := Aside0.mk (Kd.R_lower ho1 (keep_size (w := w) (g := g) (row := none) (know HK.out))); replace HK := Aside0.mk (KeepBut.trans (know HK.out) hk (.inl rfl)); replace HB := Aside0.mk (hb); replace HI0 := Aside0.mk (hi); (try clear hb); (try clear hb2); (try clear hk); (try clear hi); (try clear ho0); (try clear ho1)) | (refine boxE 5 #[.slice none 0 0, .slice none 0 0] 26 rfl ?_; intro gb207 hg w9 hbox hb; replace HO201 := Aside0.mk (Kd.R_below (rk HO201.out) hb); replace HO204 := Aside0.mk (Kd.R_below (rk HO204.out) hb); replace HB := Aside0.mk (below_step (bi HB.out) hb); have BK207 := Aside0.mk (hbox); have GW207 := Aside0.mk ((by rw [hg]; exact (keep_size (w := w) (g := g) (row := none) (know HK.out)) : w.heap.size ≤ gb207)); have GE207 := Aside0.mk ((Nat.le_trans HW0.out (by rw [hg]; exact (keep_size (w := w) (g := g) (row := none) (know HK.out)) : w.heap.size ≤ gb207) : w0.heap.size ≤ gb207)); replace HK := Aside0.mk (KeepBut.trans (know HK.out) (KeepBut.of_below hb g none) (.inl rfl)); have NB198_207 := Aside0.mk ((by rw [hg]; exact Nat.ne_of_lt (blk_lt (g := gb198) (o := .cells #[.slice none 0 0, .slice none 0 0] 26 (0, 0)) (bk BK198.out)) : gb198 ≠ gb207)); have NB207_198 := Aside0.mk ((by rw [hg]; exact Nat.ne_of_gt (blk_lt (g := gb198) (o := .cells #[.slice none 0 0, .slice none 0 0] 26 (0, 0)) (bk BK198.out)) : gb207 ≠ gb198)); replace BK198 := Aside0.mk (blk_below (bk BK198.out) hb); have NB0_207 := Aside0.mk ((by rw [hg]; exact Nat.ne_of_lt (IsS60.lt (show IsS60 w0 _ g s0_0 t205 t206 from inow HI0.out)) : g ≠ gb207)); have NB207_0 := Aside0.mk ((by rw [hg]; exact Nat.ne_of_gt (IsS60.lt (show IsS60 w0 _ g s0_0 t205 t206 from inow HI0.out)) : gb207 ≠ g)); replace HI0 := Aside0.mk (IsS60.below (inow HI0.out) hb); clear hb hbox hg; obtain ⟨Ao10, co10, eo10⟩ := Kd.R_slice HO201.out; subst eo10; have hnb11 := NB207_198.out; have hnc11 := NB198_207.out; have hnb12 := NB207_0.out; have hnc12 := NB0_207.out; have hcz13_0 : w9.cell? ⟨gb207, 0, none⟩ = some (.slice none 0 0) := (blk_cell BK207.out 0).trans rfl; have hcz13_1 : w9.cell? ⟨gb207, 1, none⟩ = some (.slice none 0 0) := (blk_cell BK207.out 1).trans rfl; have hfz13_0 := blk_frozen BK207.out 0; have hfz13_1 := blk_frozen BK207.out 1; obtain ⟨Ao14, co14, eo14⟩ := Kd.R_slice HO204.out; subst eo14) | ((with_reducible refine gate_callee (f := 54) rfl ?_); refine goesL_ (some 10) rfl rfl Tryz.func54 (by kernel_rfl) rfl #[.pointer (some ⟨g, 0, none⟩), .int .i64 14] rfl lm ?_; (with_reducible refine (spec_l1Below.calls g s0_0 t205 t206 14 t208 t209 t210 w0 _ (inow HI0.out) (bi HB.out) A4.out).mono ?_); rintro e w15 ⟨rfl, hi, hb, hk⟩; refine ⟨_, rfl, ?_⟩; replace BK198 := Aside0.mk (KeepBut.blk hk (g' := gb198) (o := .cells #[.slice none 0 0, .slice none 0 0] 26 (0, 0)) (by (with_reducible repeat (first | refine blk_drewN ?_ _ | refine blk_drew ?_ | refine blk_alloc ?_ _)); refine blk_far ?_ NB198_207.out _; (with_reducible repeat (first | refine blk_drewN ?_ _ | refine blk_drew ?_ | refine blk_alloc ?_ _)); refine blk_far ?_ NB198_207.out _; (with_reducible repeat (first | refine blk_drewN ?_ _ | refine blk_drew ?_ | refine blk_alloc ?_ _)); exact BK198.out) NB198_0.out (by simp)); replace HO201 := Aside0.mk (Kd.R_mono (Kd.R_keep (IsS60.apart (show IsS60 w0 _ g s0_0 t205 t206 from inow HI0.out) (by (with_reducible repeat (first | apply Kd.R_alloc | apply Kd.R_drewN | apply Kd.R_drew)); exact (Kd.R_mono (Kd.R_far (p := ⟨gb207, 1, none⟩) (Kd.R_far (p := ⟨gb207, 0, none⟩) (Kd.R_types HO201.out BK207.out (by decide)) (fun _ hk => hk.2) (.slice Ao10 t199.length co10)) (fun _ hk => hk.2) (.slice Ao14 t202.length co14)) (fun _ h_ => h_.1))) (by decide)) hk (fun _ h => h.2)) (fun _ h => h.1)); replace HO204 := Aside0.mk (Kd.R_mono (Kd.R_keep (IsS60.apart (show IsS60 w0 _ g s0_0 t205 t206 from inow HI0.out) (by (with_reducible repeat (first | apply Kd.R_alloc | apply Kd.R_drewN | apply Kd.R_drew)); exact (Kd.R_mono (Kd.R_far (p := ⟨gb207, 1, none⟩) (Kd.R_far (p := ⟨gb207, 0, none⟩) (Kd.R_types HO204.out BK207.out (by decide)) (fun _ hk => hk.2) (.slice Ao10 t199.length co10)) (fun _ hk => hk.2) (.slice Ao14 t202.length co14)) (fun _ h_ => h_.1))) (by decide)) hk (fun _ h => h.2)) (fun _ h => h.1)); replace BK207 := Aside0.mk (KeepBut.blk hk (g' := gb207) (o := .cells #[.slice Ao10 t199.length co10, .slice Ao14 t202.length co14] 26 (0, 0)) (by (with_reducible repeat (first | refine blk_drewN ?_ _ | refine blk_drew ?_ | refine blk_alloc ?_ _)); refine blk_put (cs := #[.slice Ao10 t199.length co10, .slice none 0 0]) ?_ 1 _ rfl; (with_reducible repeat (first | refine blk_drewN ?_ _ | refine blk_drew ?_ | refine blk_alloc ?_ _)); refine blk_put (cs := #[.slice none 0 0, .slice none 0 0]) ?_ 0 _ rfl; (with_reducible repeat (first | refine blk_drewN ?_ _ | refine blk_drew ?_ | refine blk_alloc ?_ _)); exact BK207.out) NB207_0.out (by simp)); replace HK := Aside0.mk (KeepBut.trans (know HK.out) hk (.inl rfl)); replace HB := Aside0.mk (hb); replace HI0 := Aside0.mk (hi); (try clear hb); (try clear hb2); (try clear hk); (try clear hi)) | ((with_reducible refine gate_callee (f := 55) rfl ?_); refine goesL_ (some 15) rfl rfl Tryz.func55 (by kernel_rfl) rfl #[.pointer (some ⟨g, 0, none⟩), .int .i64 a1] rfl lm ?_; (with_reducible refine (spec_l2Bent.calls k g s0_0 t209 t210 a1 t211 t214 t215 w0 _ (inow HI0.out) (bi HB.out) A6.out).mono ?_); rintro e w16 ⟨v212, rfl, ho0, hi, hb, hk⟩; refine ⟨_, rfl, ?_⟩; replace BK198 := Aside0.mk (KeepBut.blk hk (g' := gb198) (o := .cells #[.slice none 0 0, .slice none 0 0] 26 (0, 0)) (bk BK198.out) NB198_0.out (by simp)); replace BK207 := Aside0.mk (KeepBut.blk hk (g' := gb207) (o := .cells #[.slice Ao10 t199.length co10, .slice Ao14 t202.length co14] 26 (0, 0)) (bk BK207.out) NB207_0.out (by simp)); have HO213 := Aside0.mk (Kd.R_lower (Kd.R_new' (Kd.R_new' ho0 (Kd.R_lt (rk HO201.out))) (Kd.R_lt (rk HO204.out))) (keep_size (w := w) (g := g) (row := none) (know HK.out))); replace HO201 := Aside0.mk (Kd.R_mono (Kd.R_told (Kd.R_oldK (IsS60.apart (show IsS60 w0 _ g s0_0 t209 t210 from inow HI0.out) (rk HO201.out) (by decide)) hk) (Kd.R_base ho0)) (fun _ h_ => h_.1)); replace HO204 := Aside0.mk (Kd.R_mono (Kd.R_told (Kd.R_oldK (IsS60.apart (show IsS60 w0 _ g s0_0 t209 t210 from inow HI0.out) (rk HO204.out) (by decide)) hk) (Kd.R_base ho0)) (fun _ h_ => h_.1)); replace HK := Aside0.mk (KeepBut.trans (know HK.out) hk (.inl rfl)); replace HB := Aside0.mk (hb); replace HI0 := Aside0.mk (hi); (try clear hb); (try clear hb2); (try clear hk); (try clear hi); (try clear ho0); obtain ⟨Ao17, co17, eo17⟩ := Kd.R_slice HO213.out; subst eo17; have hcz18_0 : w16.cell? ⟨gb207, 0, none⟩ = some (.slice Ao10 t199.length co10) := (blk_cell BK207.out 0).trans rfl; have hcz18_1 : w16.cell? ⟨gb207, 1, none⟩ = some (.slice Ao14 t202.length co14) := (blk_cell BK207.out 1).trans rfl; have hfz18_0 := blk_frozen BK207.out 0; have hfz18_1 := blk_frozen BK207.out 1; have hnb19 := NB198_0.out; have hnc19 := NB0_198.out; have hcz20_0 : w16.cell? ⟨gb198, 0, none⟩ = some (.slice none 0 0) := (blk_cell BK198.out 0).trans rfl; have hcz20_1 : w16.cell? ⟨gb198, 1, none⟩ = some (.slice none 0 0) := (blk_cell BK198.out 1).trans rfl; have hfz20_0 := blk_frozen BK198.out 0; have hfz20_1 := blk_frozen BK198.out 1))
  refine bodyPost_ret (results_cell_row rfl _ _ gb198 26 #[.slice Ao10 t199.length co10, .slice Ao17 t211.length co17] (0, 0) _ rfl (by (with_reducible repeat (first | refine blk_drewN ?_ _ | refine blk_drew ?_ | refine blk_alloc ?_ _)); refine blk_put (cs := #[.slice Ao10 t199.length co10, .slice none 0 0]) ?_ 1 _ rfl; (with_reducible repeat (first | refine blk_drewN ?_ _ | refine blk_drew ?_ | refine blk_alloc ?_ _)); refine blk_put (cs := #[.slice none 0 0, .slice none 0 0]) ?_ 0 _ rfl; (with_reducible repeat (first | refine blk_drewN ?_ _ | refine blk_drew ?_ | refine blk_alloc ?_ _)); refine blk_far ?_ NB198_207.out _; (with_reducible repeat (first | refine blk_drewN ?_ _ | refine blk_drew ?_ | refine blk_alloc ?_ _)); exact BK198.out) Tryz.underlying26 rfl (by kernel_rfl)) rfl ?_
  exact ⟨_, _, by first | rfl | (simp [errW_none, errW_some] <;> rfl) | (simp [*, errW_none, errW_some] <;> rfl), by (with_reducible repeat (first | apply Kd.R_alloc | apply Kd.R_drewN | apply Kd.R_drew)); exact Kd.R_mono (Kd.R_far (p := ⟨gb198, 1, none⟩) (Kd.R_far (p := ⟨gb198, 0, none⟩) (Kd.R_far (p := ⟨gb207, 1, none⟩) (Kd.R_types (Kd.R_types HO201.out BK207.out (by decide)) BK198.out (by decide)) (fun _ hk => hk.1.2) (.slice Ao17 t211.length co17)) (fun _ hk => hk.2) (.slice Ao10 t199.length co10)) (fun _ hk => hk.2) (.slice Ao17 t211.length co17)) (fun _ hk => hk.1.1.2), by (with_reducible repeat (first | apply Kd.R_alloc | apply Kd.R_drewN | apply Kd.R_drew)); exact Kd.R_mono (Kd.R_far (p := ⟨gb198, 1, none⟩) (Kd.R_far (p := ⟨gb198, 0, none⟩) (Kd.R_far (p := ⟨gb207, 1, none⟩) (Kd.R_types (Kd.R_types HO213.out BK207.out (by decide)) BK198.out (by decide)) (fun _ hk => hk.1.2) (.slice Ao17 t211.length co17)) (fun _ hk => hk.2) (.slice Ao10 t199.length co10)) (fun _ hk => hk.2) (.slice Ao17 t211.length co17)) (fun _ hk => hk.1.1.1.2), inow HI0.out, bi HB.out, know HK.out⟩
 ·rw [if_neg c5] at H
  have c5b0 : (t208 == 0) = false := beq_eq_false_iff_ne.mpr c5
  have c5b1 : (t208 != 0) = true := bne_iff_ne.mpr c5
  by_cases c21 : t208 = 1
  ·rw [if_pos c21] at H
   have c21b0 : (t208 == 1) = true := beq_iff_eq.mpr c21
   have c21b1 : (t208 != 1) = false := bne_eq_false_iff_eq.mpr c21
   clear c21
   replace H := Option.bind_eq_some_iff.mp H
   obtain ⟨⟨t216, t219, t220⟩, A220, H⟩ := H
   replace H : (some (t216, t202, t219, t220)) = some (r1, r2, r3, r4) := H
   have A22 := Aside0.mk A220
   clear A220
   simp only [Option.some.injEq, Prod.mk.injEq] at H
   obtain ⟨rfl, rfl, rfl, rfl⟩ := H
   go_enter Tryz.func30, Tryz.ntmps30
   go_wp2_with (first | (refine boxE 4 #[.slice none 0 0, .slice none 0 0] 26 rfl ?_; intro gb198 hg w23 hbox hb; replace HB := Aside0.mk (below_step (bi HB.out) hb); have BK198 := Aside0.mk (hbox); have GW198 := Aside0.mk ((by rw [hg]; exact (keep_size (w := w) (g := g) (row := none) (know HK.out)) : w.heap.size ≤ gb198)); have GE198 := Aside0.mk ((Nat.le_trans HW0.out (by rw [hg]; exact (keep_size (w := w) (g := g) (row := none) (know HK.out)) : w.heap.size ≤ gb198) : w0.heap.size ≤ gb198)); replace HK := Aside0.mk (KeepBut.trans (know HK.out) (KeepBut.of_below hb g none) (.inl rfl)); have NB0_198 := Aside0.mk ((by rw [hg]; exact Nat.ne_of_lt (IsS60.lt (show IsS60 w0 _ g s0_0 s0_1 s0_2 from inow HI0.out)) : g ≠ gb198)); have NB198_0 := Aside0.mk ((by rw [hg]; exact Nat.ne_of_gt (IsS60.lt (show IsS60 w0 _ g s0_0 s0_1 s0_2 from inow HI0.out)) : gb198 ≠ g)); replace HI0 := Aside0.mk (IsS60.below (inow HI0.out) hb); clear hb hbox hg) | ((with_reducible refine gate_callee (f := 37) rfl ?_); refine goesL_ (some 8) rfl rfl Tryz.func37 (by kernel_rfl) rfl #[.pointer (some ⟨g, 0, none⟩), .int .i64 a1] rfl lm ?_; (with_reducible refine (spec_l4Draw.calls k g s0_0 s0_1 s0_2 a1 t199 t202 t205 t206 w0 _ (inow HI0.out) (bi HB.out) A3.out).mono ?_); rintro e w24 ⟨v200, v203, rfl, ho0, ho1, hi, hb, hk⟩; refine ⟨_, rfl, ?_⟩; replace BK198 := Aside0.mk (KeepBut.blk hk (g' := gb198) (o := .cells #[.slice none 0 0, .slice none 0 0] 26 (0, 0)) (bk BK198.out) NB198_0.out (by simp)); have HO201 := Aside0.mk (Kd.R_lower ho0 (keep_size (w := w) (g := g) (row := none) (know HK.out))); have HO204 := Aside0.mk (Kd.R_lower ho1 (keep_size (w := w) (g := g) (row := none) (know HK.out))); replace HK := Aside0.mk (KeepBut.trans (know HK.out) hk (.inl rfl)); replace HB := Aside0.mk (hb); replace HI0 := Aside0.mk (hi); (try clear hb); (try clear hb2); (try clear hk); (try clear hi); (try clear ho0); (try clear ho1)) | (refine boxE 5 #[.slice none 0 0, .slice none 0 0] 26 rfl ?_; intro gb207 hg w25 hbox hb; replace HO201 := Aside0.mk (Kd.R_below (rk HO201.out) hb); replace HO204 := Aside0.mk (Kd.R_below (rk HO204.out) hb); replace HB := Aside0.mk (below_step (bi HB.out) hb); have BK207 := Aside0.mk (hbox); have GW207 := Aside0.mk ((by rw [hg]; exact (keep_size (w := w) (g := g) (row := none) (know HK.out)) : w.heap.size ≤ gb207)); have GE207 := Aside0.mk ((Nat.le_trans HW0.out (by rw [hg]; exact (keep_size (w := w) (g := g) (row := none) (know HK.out)) : w.heap.size ≤ gb207) : w0.heap.size ≤ gb207)); replace HK := Aside0.mk (KeepBut.trans (know HK.out) (KeepBut.of_below hb g none) (.inl rfl)); have NB198_207 := Aside0.mk ((by rw [hg]; exact Nat.ne_of_lt (blk_lt (g := gb198) (o := .cells #[.slice none 0 0, .slice none 0 0] 26 (0, 0)) (bk BK198.out)) : gb198 ≠ gb207)); have NB207_198 := Aside0.mk ((by rw [hg]; exact Nat.ne_of_gt (blk_lt (g := gb198) (o := .cells #[.slice none 0 0, .slice none 0 0] 26 (0, 0)) (bk BK198.out)) : gb207 ≠ gb198)); replace BK198 := Aside0.mk (blk_below (bk BK198.out) hb); have NB0_207 := Aside0.mk ((by rw [hg]; exact Nat.ne_of_lt (IsS60.lt (show IsS60 w0 _ g s0_0 t205 t206 from inow HI0.out)) : g ≠ gb207)); have NB207_0 := Aside0.mk ((by rw [hg]; exact Nat.ne_of_gt (IsS60.lt (show IsS60 w0 _ g s0_0 t205 t206 from inow HI0.out)) : gb207 ≠ g)); replace HI0 := Aside0.mk (IsS60.below (inow HI0.out) hb); clear hb hbox hg; obtain ⟨Ao26, co26, eo26⟩ := Kd.R_slice HO201.out; subst eo26; have hnb27 := NB207_198.out; have hnc27 := NB198_207.out; have hnb28 := NB207_0.out; have hnc28 := NB0_207.out; have hcz29_0 : w25.cell? ⟨gb207, 0, none⟩ = some (.slice none 0 0) := (blk_cell BK207.out 0).trans rfl; have hcz29_1 : w25.cell? ⟨gb207, 1, none⟩ = some (.slice none 0 0) := (blk_cell BK207.out 1).trans rfl; have hfz29_0 := blk_frozen BK207.out 0; have hfz29_1 := blk_frozen BK207.out 1; obtain ⟨Ao30, co30, eo30⟩ := Kd.R_slice HO204.out; subst eo30) | ((with_reducible refine gate_callee (f := 54) rfl ?_); refine goesL_ (some 10) rfl rfl Tryz.func54 (by kernel_rfl) rfl #[.pointer (some ⟨g, 0, none⟩), .int .i64 14] rfl lm ?_; (with_reducible refine (spec_l1Below.calls g s0_0 t205 t206 14 t208 t209 t210 w0 _ (inow HI0.out) (bi HB.out) A4.out).mono ?_); rintro e w31 ⟨rfl, hi, hb, hk⟩; refine ⟨_, rfl, ?_⟩; replace BK198 := Aside0.mk (KeepBut.blk hk (g' := gb198) (o := .cells #[.slice none 0 0, .slice none 0 0] 26 (0, 0)) (by (with_reducible repeat (first | refine blk_drewN ?_ _ | refine blk_drew ?_ | refine blk_alloc ?_ _)); refine blk_far ?_ NB198_207.out _; (with_reducible repeat (first | refine blk_drewN ?_ _ | refine blk_drew ?_ | refine blk_alloc ?_ _)); refine blk_far ?_ NB198_207.out _; (with_reducible repeat (first | refine blk_drewN ?_ _ | refine blk_drew ?_ | refine blk_alloc ?_ _)); exact BK198.out) NB198_0.out (by simp)); replace HO201 := Aside0.mk (Kd.R_mono (Kd.R_keep (IsS60.apart (show IsS60 w0 _ g s0_0 t205 t206 from inow HI0.out) (by (with_reducible repeat (first | apply Kd.R_alloc | apply Kd.R_drewN | apply Kd.R_drew)); exact (Kd.R_mono (Kd.R_far (p := ⟨gb207, 1, none⟩) (Kd.R_far (p := ⟨gb207, 0, none⟩) (Kd.R_types HO201.out BK207.out (by decide)) (fun _ hk => hk.2) (.slice Ao26 t199.length co26)) (fun _ hk => hk.2) (.slice Ao30 t202.length co30)) (fun _ h_ => h_.1))) (by decide)) hk (fun _ h => h.2)) (fun _ h => h.1)); replace HO204 := Aside0.mk (Kd.R_mono (Kd.R_keep (IsS60.apart (show IsS60 w0 _ g s0_0 t205 t206 from inow HI0.out) (by (with_reducible repeat (first | apply Kd.R_alloc | apply Kd.R_drewN | apply Kd.R_drew)); exact (Kd.R_mono (Kd.R_far (p := ⟨gb207, 1, none⟩) (Kd.R_far (p := ⟨gb207, 0, none⟩) (Kd.R_types HO204.out BK207.out (by decide)) (fun _ hk => hk.2) (.slice Ao26 t199.length co26)) (fun _ hk => hk.2) (.slice Ao30 t202.length co30)) (fun _ h_ => h_.1))) (by decide)) hk (fun _ h => h.2)) (fun _ h => h.1)); replace BK207 := Aside0.mk (KeepBut.blk hk (g' := gb207) (o := .cells #[.slice Ao26 t199.length co26, .slice Ao30 t202.length co30] 26 (0, 0)) (by (with_reducible repeat (first | refine blk_drewN ?_ _ | refine blk_drew ?_ | refine blk_alloc ?_ _)); refine blk_put (cs := #[.slice Ao26 t199.length co26, .slice none 0 0]) ?_ 1 _ rfl; (with_reducible repeat (first | refine blk_drewN ?_ _ | refine blk_drew ?_ | refine blk_alloc ?_ _)); refine blk_put (cs := #[.slice none 0 0, .slice none 0 0]) ?_ 0 _ rfl; (with_reducible repeat (first | refine blk_drewN ?_ _ | refine blk_drew ?_ | refine blk_alloc ?_ _)); exact BK207.out) NB207_0.out (by simp)); replace HK := Aside0.mk (KeepBut.trans (know HK.out) hk (.inl rfl)); replace HB := Aside0.mk (hb); replace HI0 := Aside0.mk (hi); (try clear hb); (try clear hb2); (try clear hk); (try clear hi)) | ((with_reducible refine gate_callee (f := 55) rfl ?_); refine goesL_ (some 21) rfl rfl Tryz.func55 (by kernel_rfl) rfl #[.pointer (some ⟨g, 0, none⟩), .int .i64 a1] rfl lm ?_; (with_reducible refine (spec_l2Bent.calls k g s0_0 t209 t210 a1 t216 t219 t220 w0 _ (inow HI0.out) (bi HB.out) A22.out).mono ?_); rintro e w32 ⟨v217, rfl, ho0, hi, hb, hk⟩; refine ⟨_, rfl, ?_⟩; replace BK198 := Aside0.mk (KeepBut.blk hk (g' := gb198) (o := .cells #[.slice none 0 0, .slice none 0 0] 26 (0, 0)) (bk BK198.out) NB198_0.out (by simp)); replace BK207 := Aside0.mk (KeepBut.blk hk (g' := gb207) (o := .cells #[.slice Ao26 t199.length co26, .slice Ao30 t202.length co30] 26 (0, 0)) (bk BK207.out) NB207_0.out (by simp)); have HO218 := Aside0.mk (Kd.R_lower (Kd.R_new' (Kd.R_new' ho0 (Kd.R_lt (rk HO201.out))) (Kd.R_lt (rk HO204.out))) (keep_size (w := w) (g := g) (row := none) (know HK.out))); replace HO201 := Aside0.mk (Kd.R_mono (Kd.R_told (Kd.R_oldK (IsS60.apart (show IsS60 w0 _ g s0_0 t209 t210 from inow HI0.out) (rk HO201.out) (by decide)) hk) (Kd.R_base ho0)) (fun _ h_ => h_.1)); replace HO204 := Aside0.mk (Kd.R_mono (Kd.R_told (Kd.R_oldK (IsS60.apart (show IsS60 w0 _ g s0_0 t209 t210 from inow HI0.out) (rk HO204.out) (by decide)) hk) (Kd.R_base ho0)) (fun _ h_ => h_.1)); replace HK := Aside0.mk (KeepBut.trans (know HK.out) hk (.inl rfl)); replace HB := Aside0.mk (hb); replace HI0 := Aside0.mk (hi); (try clear hb); (try clear hb2); (try clear hk); (try clear hi); (try clear ho0); obtain ⟨Ao33, co33, eo33⟩ := Kd.R_slice HO218.out; subst eo33; have hcz34_0 : w32.cell? ⟨gb207, 0, none⟩ = some (.slice Ao26 t199.length co26) := (blk_cell BK207.out 0).trans rfl; have hcz34_1 : w32.cell? ⟨gb207, 1, none⟩ = some (.slice Ao30 t202.length co30) := (blk_cell BK207.out 1).trans rfl; have hfz34_0 := blk_frozen BK207.out 0; have hfz34_1 := blk_frozen BK207.out 1; have hnb35 := NB198_0.out; have hnc35 := NB0_198.out; have hcz36_0 : w32.cell? ⟨gb198, 0, none⟩ = some (.slice none 0 0) := (blk_cell BK198.out 0).trans rfl; have hcz36_1 : w32.cell? ⟨gb198, 1, none⟩ = some (.slice none 0 0) := (blk_cell BK198.out 1).trans rfl; have hfz36_0 := blk_frozen BK198.out 0; have hfz36_1 := blk_frozen BK198.out 1))
   refine bodyPost_ret (results_cell_row rfl _ _ gb198 26 #[.slice Ao33 t216.length co33, .slice Ao30 t202.length co30] (0, 0) _ rfl (by (with_reducible repeat (first | refine blk_drewN ?_ _ | refine blk_drew ?_ | refine blk_alloc ?_ _)); refine blk_put (cs := #[.slice Ao33 t216.length co33, .slice none 0 0]) ?_ 1 _ rfl; (with_reducible repeat (first | refine blk_drewN ?_ _ | refine blk_drew ?_ | refine blk_alloc ?_ _)); refine blk_put (cs := #[.slice none 0 0, .slice none 0 0]) ?_ 0 _ rfl; (with_reducible repeat (first | refine blk_drewN ?_ _ | refine blk_drew ?_ | refine blk_alloc ?_ _)); refine blk_far ?_ NB198_207.out _; (with_reducible repeat (first | refine blk_drewN ?_ _ | refine blk_drew ?_ | refine blk_alloc ?_ _)); exact BK198.out) Tryz.underlying26 rfl (by kernel_rfl)) rfl ?_
   exact ⟨_, _, by first | rfl | (simp [errW_none, errW_some] <;> rfl) | (simp [*, errW_none, errW_some] <;> rfl), by (with_reducible repeat (first | apply Kd.R_alloc | apply Kd.R_drewN | apply Kd.R_drew)); exact Kd.R_mono (Kd.R_far (p := ⟨gb198, 1, none⟩) (Kd.R_far (p := ⟨gb198, 0, none⟩) (Kd.R_far (p := ⟨gb207, 0, none⟩) (Kd.R_types (Kd.R_types HO218.out BK207.out (by decide)) BK198.out (by decide)) (fun _ hk => hk.1.2) (.slice Ao33 t216.length co33)) (fun _ hk => hk.2) (.slice Ao33 t216.length co33)) (fun _ hk => hk.2) (.slice Ao30 t202.length co30)) (fun _ hk => hk.1.1.2), by (with_reducible repeat (first | apply Kd.R_alloc | apply Kd.R_drewN | apply Kd.R_drew)); exact Kd.R_mono (Kd.R_far (p := ⟨gb198, 1, none⟩) (Kd.R_far (p := ⟨gb198, 0, none⟩) (Kd.R_far (p := ⟨gb207, 0, none⟩) (Kd.R_types (Kd.R_types HO204.out BK207.out (by decide)) BK198.out (by decide)) (fun _ hk => hk.1.2) (.slice Ao33 t216.length co33)) (fun _ hk => hk.2) (.slice Ao33 t216.length co33)) (fun _ hk => hk.2) (.slice Ao30 t202.length co30)) (fun _ hk => hk.1.1.2), inow HI0.out, bi HB.out, know HK.out⟩
  ·rw [if_neg c21] at H
   have c21b0 : (t208 == 1) = false := beq_eq_false_iff_ne.mpr c21
   have c21b1 : (t208 != 1) = true := bne_iff_ne.mpr c21
   simp only [Option.some.injEq, Prod.mk.injEq] at H
   obtain ⟨rfl, rfl, rfl, rfl⟩ := H
   go_enter Tryz.func30, Tryz.ntmps30
   go_wp2_with (first | (refine boxE 4 #[.slice none 0 0, .slice none 0 0] 26 rfl ?_; intro gb198 hg w37 hbox hb; replace HB := Aside0.mk (below_step (bi HB.out) hb); have BK198 := Aside0.mk (hbox); have GW198 := Aside0.mk ((by rw [hg]; exact (keep_size (w := w) (g := g) (row := none) (know HK.out)) : w.heap.size ≤ gb198)); have GE198 := Aside0.mk ((Nat.le_trans HW0.out (by rw [hg]; exact (keep_size (w := w) (g := g) (row := none) (know HK.out)) : w.heap.size ≤ gb198) : w0.heap.size ≤ gb198)); replace HK := Aside0.mk (KeepBut.trans (know HK.out) (KeepBut.of_below hb g none) (.inl rfl)); have NB0_198 := Aside0.mk ((by rw [hg]; exact Nat.ne_of_lt (IsS60.lt (show IsS60 w0 _ g s0_0 s0_1 s0_2 from inow HI0.out)) : g ≠ gb198)); have NB198_0 := Aside0.mk ((by rw [hg]; exact Nat.ne_of_gt (IsS60.lt (show IsS60 w0 _ g s0_0 s0_1 s0_2 from inow HI0.out)) : gb198 ≠ g)); replace HI0 := Aside0.mk (IsS60.below (inow HI0.out) hb); clear hb hbox hg) | ((with_reducible refine gate_callee (f := 37) rfl ?_); refine goesL_ (some 8) rfl rfl Tryz.func37 (by kernel_rfl) rfl #[.pointer (some ⟨g, 0, none⟩), .int .i64 a1] rfl lm ?_; (with_reducible refine (spec_l4Draw.calls k g s0_0 s0_1 s0_2 a1 t199 t202 t205 t206 w0 _ (inow HI0.out) (bi HB.out) A3.out).mono ?_); rintro e w38 ⟨v200, v203, rfl, ho0, ho1, hi, hb, hk⟩; refine ⟨_, rfl, ?_⟩; replace BK198 := Aside0.mk (KeepBut.blk hk (g' := gb198) (o := .cells #[.slice none 0 0, .slice none 0 0] 26 (0, 0)) (bk BK198.out) NB198_0.out (by simp)); have HO201 := Aside0.mk (Kd.R_lower ho0 (keep_size (w := w) (g := g) (row := none) (know HK.out))); have HO204 := Aside0.mk (Kd.R_lower ho1 (keep_size (w := w) (g := g) (row := none) (know HK.out))); replace HK := Aside0.mk (KeepBut.trans (know HK.out) hk (.inl rfl)); replace HB := Aside0.mk (hb); replace HI0 := Aside0.mk (hi); (try clear hb); (try clear hb2); (try clear hk); (try clear hi); (try clear ho0); (try clear ho1)) | (refine boxE 5 #[.slice none 0 0, .slice none 0 0] 26 rfl ?_; intro gb207 hg w39 hbox hb; replace HO201 := Aside0.mk (Kd.R_below (rk HO201.out) hb); replace HO204 := Aside0.mk (Kd.R_below (rk HO204.out) hb); replace HB := Aside0.mk (below_step (bi HB.out) hb); have BK207 := Aside0.mk (hbox); have GW207 := Aside0.mk ((by rw [hg]; exact (keep_size (w := w) (g := g) (row := none) (know HK.out)) : w.heap.size ≤ gb207)); have GE207 := Aside0.mk ((Nat.le_trans HW0.out (by rw [hg]; exact (keep_size (w := w) (g := g) (row := none) (know HK.out)) : w.heap.size ≤ gb207) : w0.heap.size ≤ gb207)); replace HK := Aside0.mk (KeepBut.trans (know HK.out) (KeepBut.of_below hb g none) (.inl rfl)); have NB198_207 := Aside0.mk ((by rw [hg]; exact Nat.ne_of_lt (blk_lt (g := gb198) (o := .cells #[.slice none 0 0, .slice none 0 0] 26 (0, 0)) (bk BK198.out)) : gb198 ≠ gb207)); have NB207_198 := Aside0.mk ((by rw [hg]; exact Nat.ne_of_gt (blk_lt (g := gb198) (o := .cells #[.slice none 0 0, .slice none 0 0] 26 (0, 0)) (bk BK198.out)) : gb207 ≠ gb198)); replace BK198 := Aside0.mk (blk_below (bk BK198.out) hb); have NB0_207 := Aside0.mk ((by rw [hg]; exact Nat.ne_of_lt (IsS60.lt (show IsS60 w0 _ g s0_0 t205 t206 from inow HI0.out)) : g ≠ gb207)); have NB207_0 := Aside0.mk ((by rw [hg]; exact Nat.ne_of_gt (IsS60.lt (show IsS60 w0 _ g s0_0 t205 t206 from inow HI0.out)) : gb207 ≠ g)); replace HI0 := Aside0.mk (IsS60.below (inow HI0.out) hb); clear hb hbox hg; obtain ⟨Ao40, co40, eo40⟩ := Kd.R_slice HO201.out; subst eo40; have hnb41 := NB207_198.out; have hnc41 := NB198_207.out; have hnb42 := NB207_0.out; have hnc42 := NB0_207.out; have hcz43_0 : w39.cell? ⟨gb207, 0, none⟩ = some (.slice none 0 0) := (blk_cell BK207.out 0).trans rfl; have hcz43_1 : w39.cell? ⟨gb207, 1, none⟩ = some (.slice none 0 0) := (blk_cell BK207.out 1).trans rfl; have hfz43_0 := blk_frozen BK207.out 0; have hfz43_1 := blk_frozen BK207.out 1; obtain ⟨Ao44, co44, eo44⟩ := Kd.R_slice HO204.out; subst eo44) | ((with_reducible refine gate_callee (f := 54) rfl ?_); refine goesL_ (some 10) rfl rfl Tryz.func54 (by kernel_rfl) rfl #[.pointer (some ⟨g, 0, none⟩), .int .i64 14] rfl lm ?_; (with_reducible refine (spec_l1Below.calls g s0_0 t205 t206 14 t208 t209 t210 w0 _ (inow HI0.out) (bi HB.out) A4.out).mono ?_); rintro e w45 ⟨rfl, hi, hb, hk⟩; refine ⟨_, rfl, ?_⟩; replace BK198 := Aside0.mk (KeepBut.blk hk (g' := gb198) (o := .cells #[.slice none 0 0, .slice none 0 0] 26 (0, 0)) (by (with_reducible repeat (first | refine blk_drewN ?_ _ | refine blk_drew ?_ | refine blk_alloc ?_ _)); refine blk_far ?_ NB198_207.out _; (with_reducible repeat (first | refine blk_drewN ?_ _ | refine blk_drew ?_ | refine blk_alloc ?_ _)); refine blk_far ?_ NB198_207.out _; (with_reducible repeat (first | refine blk_drewN ?_ _ | refine blk_drew ?_ | refine blk_alloc ?_ _)); exact BK198.out) NB198_0.out (by simp)); replace HO201 := Aside0.mk (Kd.R_mono (Kd.R_keep (IsS60.apart (show IsS60 w0 _ g s0_0 t205 t206 from inow HI0.out) (by (with_reducible repeat (first | apply Kd.R_alloc | apply Kd.R_drewN | apply Kd.R_drew)); exact (Kd.R_mono (Kd.R_far (p := ⟨gb207, 1, none⟩) (Kd.R_far (p := ⟨gb207, 0, none⟩) (Kd.R_types HO201.out BK207.out (by decide)) (fun _ hk => hk.2) (.slice Ao40 t199.length co40)) (fun _ hk => hk.2) (.slice Ao44 t202.length co44)) (fun _ h_ => h_.1))) (by decide)) hk (fun _ h => h.2)) (fun _ h => h.1)); replace HO204 := Aside0.mk (Kd.R_mono (Kd.R_keep (IsS60.apart (show IsS60 w0 _ g s0_0 t205 t206 from inow HI0.out) (by (with_reducible repeat (first | apply Kd.R_alloc | apply Kd.R_drewN | apply Kd.R_drew)); exact (Kd.R_mono (Kd.R_far (p := ⟨gb207, 1, none⟩) (Kd.R_far (p := ⟨gb207, 0, none⟩) (Kd.R_types HO204.out BK207.out (by decide)) (fun _ hk => hk.2) (.slice Ao40 t199.length co40)) (fun _ hk => hk.2) (.slice Ao44 t202.length co44)) (fun _ h_ => h_.1))) (by decide)) hk (fun _ h => h.2)) (fun _ h => h.1)); replace BK207 := Aside0.mk (KeepBut.blk hk (g' := gb207) (o := .cells #[.slice Ao40 t199.length co40, .slice Ao44 t202.length co44] 26 (0, 0)) (by (with_reducible repeat (first | refine blk_drewN ?_ _ | refine blk_drew ?_ | refine blk_alloc ?_ _)); refine blk_put (cs := #[.slice Ao40 t199.length co40, .slice none 0 0]) ?_ 1 _ rfl; (with_reducible repeat (first | refine blk_drewN ?_ _ | refine blk_drew ?_ | refine blk_alloc ?_ _)); refine blk_put (cs := #[.slice none 0 0, .slice none 0 0]) ?_ 0 _ rfl; (with_reducible repeat (first | refine blk_drewN ?_ _ | refine blk_drew ?_ | refine blk_alloc ?_ _)); exact BK207.out) NB207_0.out (by simp)); replace HK := Aside0.mk (KeepBut.trans (know HK.out) hk (.inl rfl)); replace HB := Aside0.mk (hb); replace HI0 := Aside0.mk (hi); (try clear hb); (try clear hb2); (try clear hk); (try clear hi); have hcz46_0 : w45.cell? ⟨gb207, 0, none⟩ = some (.slice Ao40 t199.length co40) := (blk_cell BK207.out 0).trans rfl; have hcz46_1 : w45.cell? ⟨gb207, 1, none⟩ = some (.slice Ao44 t202.length co44) := (blk_cell BK207.out 1).trans rfl; have hfz46_0 := blk_frozen BK207.out 0; have hfz46_1 := blk_frozen BK207.out 1; have hnb47 := NB198_0.out; have hnc47 := NB0_198.out; have hcz48_0 : w45.cell? ⟨gb198, 0, none⟩ = some (.slice none 0 0) := (blk_cell BK198.out 0).trans rfl; have hcz48_1 : w45.cell? ⟨gb198, 1, none⟩ = some (.slice none 0 0) := (blk_cell BK198.out 1).trans rfl; have hfz48_0 := blk_frozen BK198.out 0; have hfz48_1 := blk_frozen BK198.out 1))
   refine bodyPost_ret (results_cell_row rfl _ _ gb198 26 #[.slice Ao40 t199.length co40, .slice Ao44 t202.length co44] (0, 0) _ rfl (by (with_reducible repeat (first | refine blk_drewN ?_ _ | refine blk_drew ?_ | refine blk_alloc ?_ _)); refine blk_put (cs := #[.slice Ao40 t199.length co40, .slice none 0 0]) ?_ 1 _ rfl; (with_reducible repeat (first | refine blk_drewN ?_ _ | refine blk_drew ?_ | refine blk_alloc ?_ _)); refine blk_put (cs := #[.slice none 0 0, .slice none 0 0]) ?_ 0 _ rfl; (with_reducible repeat (first | refine blk_drewN ?_ _ | refine blk_drew ?_ | refine blk_alloc ?_ _)); exact BK198.out) Tryz.underlying26 rfl (by kernel_rfl)) rfl ?_
   exact ⟨_, _, by first | rfl | (simp [errW_none, errW_some] <;> rfl) | (simp [*, errW_none, errW_some] <;> rfl), by (with_reducible repeat (first | apply Kd.R_alloc | apply Kd.R_drewN | apply Kd.R_drew)); exact Kd.R_mono (Kd.R_far (p := ⟨gb198, 1, none⟩) (Kd.R_far (p := ⟨gb198, 0, none⟩) (Kd.R_types HO201.out BK198.out (by decide)) (fun _ hk => hk.2) (.slice Ao40 t199.length co40)) (fun _ hk => hk.2) (.slice Ao44 t202.length co44)) (fun _ hk => hk.1), by (with_reducible repeat (first | apply Kd.R_alloc | apply Kd.R_drewN | apply Kd.R_drew)); exact Kd.R_mono (Kd.R_far (p := ⟨gb198, 1, none⟩) (Kd.R_far (p := ⟨gb198, 0, none⟩) (Kd.R_types HO204.out BK198.out (by decide)) (fun _ hk => hk.2) (.slice Ao40 t199.length co40)) (fun _ hk => hk.2) (.slice Ao44 t202.length co44)) (fun _ hk => hk.1), inow HI0.out, bi HB.out, know HK.out⟩

/-! ### spec_l1New: function 31 -/
def spec_l1New.l0 : Nat → List Int → Int → Int → Option (List Int × Int × Int)
 | 0, _, _, _ => none
 | k + 1, x0, x3, x4 => if x4 < (x0.length : Int) then (if x4 < 4000 then (if 0 ≤ x4 then (spec_l1New.l0 k x0 (Go.bits .and .i64 (wrap64 ((wrap64 ((wrap64 (x3 * 131)) + (wrap64 (rd x0 x4)))) + 7)) 1073741823) (wrap64 (x4 + 1))) else (none)) else (some (x0, 0, x3))) else (some (x0, 0, x3))
def spec_l1New.f (k : Nat) (l0 : List Int) : Option (List Int × Int × Int) := spec_l1New.l0 k l0 (wrap64 (26583 + (l0.length : Int))) 0
theorem spec_l1New.mono_l : ∀ k, (∀ y0 y1 y2, LeO (spec_l1New.l0 k y0 y1 y2) (spec_l1New.l0 (k + 1) y0 y1 y2))
 | 0 => fun _ _ _ r h => by simp [spec_l1New.l0] at h
 | k + 1 => by
  have ih0 := spec_l1New.mono_l k
  ·intro y0 y1 y2
   unfold spec_l1New.l0
   repeat' first
   | (with_reducible exact ih0 _ _ _)
   | (with_reducible exact LeO.refl _)
   | (with_reducible exact LeO.none _)
   | (with_reducible refine LeO.ite ?_ ?_)
   | (with_reducible refine LeO.bind ?_ (fun _ => ?_))
   | exact ih0 _ _ _
   | exact LeO.none _
   | refine LeO.ite ?_ ?_
   | refine LeO.bind ?_ (fun _ => ?_)
theorem spec_l1New.mono : ∀ a0 k, LeO (spec_l1New.f k a0) (spec_l1New.f (k + 1) a0) := by
 intro a0 k
 have ih0 := spec_l1New.mono_l k
 unfold spec_l1New.f
 repeat' first
   | (with_reducible exact ih0 _ _ _)
   | (with_reducible exact LeO.refl _)
   | (with_reducible exact LeO.none _)
   | (with_reducible refine LeO.ite ?_ ?_)
   | (with_reducible refine LeO.bind ?_ (fun _ => ?_))
   | exact ih0 _ _ _
   | exact LeO.none _
   | refine LeO.ite ?_ ?_
   | refine LeO.bind ?_ (fun _ => ?_)
set_option maxHeartbeats 8000000 in
set_option maxRecDepth 100000 in
theorem spec_l1New.calls (k : Nat) (A0 : Option Addr) (c0 : Nat) (l0 : List Int) (r1 : List Int) (r2 : Int) (r3 : Int) (w0 w : World) (hB : Below w0.heap.size w0 w) (hr0 : Kd.C (Kd.int .u8) w0 A0 l0.length l0) (hc0 : l0.length ≤ c0) (h : spec_l1New.f k l0 = some (r1, r2, r3)) :
  Calls Tryz.prog 31 #[.slice A0 l0.length c0] w fun e w' => ∃ g_ : Nat, e = .returned (.pointer (some ⟨g_, 0, none⟩)) ∧ IsS60 w0 w' g_ r1 r2 r3 ∧ Below w0.heap.size w0 w' ∧ Below w.heap.size w w' := by
 have hu60 := Tryz.underlying60
 have HR0 := Aside0.mk hr0
 have HC0 := Aside0.mk hc0
 clear hr0 hc0
 have HBW := Aside0.mk (Below.refl w.heap.size w)
 have HW0 := Aside0.mk hB.size
 have HB := Aside0.mk hB
 clear hB
 have H : (spec_l1New.l0 k l0 (wrap64 (26583 + (l0.length : Int))) 0) = some (r1, r2, r3) := h
 clear h
 have H' := Aside0.mk H
 clear H
 go_enter Tryz.func31, Tryz.ntmps31
 go_wp2
 go_loopg [3, 4] k (fun kq v3 v4 w' => ∃ (x3_1 : Int) (x4_1 : Int), v3 = .int .i64 x3_1 ∧ v4 = .int .i64 x4_1 ∧ Aside0 (spec_l1New.l0 kq l0 x3_1 x4_1 = some (r1, r2, r3)) ∧ Aside0 (kq ≤ k) ∧ Aside0 (Below w0.heap.size w0 w') ∧ Aside0 (Below w.heap.size w w'))
 case atStart => exact ⟨(wrap64 (26583 + (l0.length : Int))), (0), (by first | rfl | (simp; done) | (simp [*]; done)), (by first | rfl | (simp; done) | (simp [*]; done)), H', ⟨Nat.le_refl _⟩, ⟨bn HB.out⟩, ⟨bn HBW.out⟩⟩
 case round =>
  clear H'
  obtain ⟨x3_1, x4_1, rfl, rfl, HA, HK1, HB, HBW⟩ := hrel
  cases gk with
  | zero => exact absurd HA.out (by simp [spec_l1New.l0])
  | succ k1 =>
   have H := HA.out
   clear HA
   simp only [spec_l1New.l0] at H
   by_cases c2 : x4_1 < (l0.length : Int)
   ·rw [if_pos c2] at H
    have c2b0 : decide (x4_1 < (l0.length : Int)) = true := decide_eq_true c2
    clear c2
    by_cases c3 : x4_1 < 4000
    ·rw [if_pos c3] at H
     have c3b0 : decide (x4_1 < 4000) = true := decide_eq_true c3
     clear c3
     by_cases c4 : 0 ≤ x4_1
     ·rw [if_pos c4] at H
      have c4b0 : decide (0 ≤ x4_1) = true := decide_eq_true c4
      clear c4
      have H' := Aside0.mk H
      clear H
      have p221 : 0 ≤ (x4_1 : Int) := of_decide_eq_true (by first | (with_reducible assumption) | assumption)
      have q221 : x4_1 < (l0.length : Int) := of_decide_eq_true (by first | (with_reducible assumption) | assumption)
      obtain ⟨ad221, e221, hx221_0⟩ := Kd.at_int HR0.out x4_1 p221 q221
      cases e221
      replace hx221_0 := pw_cell_below HB.out hx221_0
      replace p221 := eq_true p221
      replace q221 := eq_true q221
      go_wp2
      go_roundg k1
      case measure => have := HK1.out; omega
      case rel => exact ⟨(Go.bits .and .i64 (wrap64 ((wrap64 ((wrap64 (x3_1 * 131)) + (wrap64 (rd l0 x4_1)))) + 7)) 1073741823), (wrap64 (x4_1 + 1)), (by first | rfl | (simp; done) | (simp [*]; done)), (by first | rfl | (simp; done) | (simp [*]; done)), H', ⟨by have := HK1.out; omega⟩, ⟨bn HB.out⟩, ⟨bn HBW.out⟩⟩
     ·rw [if_neg c4] at H
      exact absurd H (by simp)
    ·rw [if_neg c3] at H
     have c3b0 : decide (x4_1 < 4000) = false := decide_eq_false c3
     clear c3
     simp only [Option.some.injEq, Prod.mk.injEq] at H
     obtain ⟨rfl, rfl, rfl⟩ := H
     go_wp2_with (first | (refine boxE 31 #[.slice A0 l0.length c0, .int .i64 0, .int .i64 x3_1] 60 rfl ?_; intro gb222 hg w5 hbox hb; replace HB := Aside0.mk (below_step (bn HB.out) hb); have BK222 := Aside0.mk (hbox); have GW222 := Aside0.mk ((by rw [hg]; exact (below_size (bn HBW.out)) : w.heap.size ≤ gb222)); have GE222 := Aside0.mk ((Nat.le_trans HW0.out (by rw [hg]; exact (below_size (bn HBW.out)) : w.heap.size ≤ gb222) : w0.heap.size ≤ gb222)); replace HBW := Aside0.mk (below_step HBW.out hb); clear hb hbox hg))
     go_ret
     exact ⟨_, rfl, (show IsS60 w0 _ gb222 l0 0 x3_1 from ⟨_, _, by (with_reducible repeat (first | refine blk_drewN ?_ _ | refine blk_drew ?_ | refine blk_alloc ?_ _)); exact BK222.out, GE222.out, HR0.out⟩), bn HB.out, bn HBW.out⟩
   ·rw [if_neg c2] at H
    have c2b0 : decide (x4_1 < (l0.length : Int)) = false := decide_eq_false c2
    clear c2
    simp only [Option.some.injEq, Prod.mk.injEq] at H
    obtain ⟨rfl, rfl, rfl⟩ := H
    go_wp2_with (first | (refine boxE 31 #[.slice A0 l0.length c0, .int .i64 0, .int .i64 x3_1] 60 rfl ?_; intro gb223 hg w6 hbox hb; replace HB := Aside0.mk (below_step (bn HB.out) hb); have BK223 := Aside0.mk (hbox); have GW223 := Aside0.mk ((by rw [hg]; exact (below_size (bn HBW.out)) : w.heap.size ≤ gb223)); have GE223 := Aside0.mk ((Nat.le_trans HW0.out (by rw [hg]; exact (below_size (bn HBW.out)) : w.heap.size ≤ gb223) : w0.heap.size ≤ gb223)); replace HBW := Aside0.mk (below_step HBW.out hb); clear hb hbox hg))
    go_ret
    exact ⟨_, rfl, (show IsS60 w0 _ gb223 l0 0 x3_1 from ⟨_, _, by (with_reducible repeat (first | refine blk_drewN ?_ _ | refine blk_drew ?_ | refine blk_alloc ?_ _)); exact BK223.out, GE223.out, HR0.out⟩), bn HB.out, bn HBW.out⟩

/-! ### spec_DrawTurnShape: function 5 -/
def spec_DrawTurnShape.f (k : Nat) (l0 : List Int) : Option (List Int × List Int) := (spec_l1New.f k l0).bind fun bt225 => ((spec_l4Bent.f k bt225.1 bt225.2.1 bt225.2.2 9).bind fun bt229 => (some (bt229.1, bt229.2.1)))
theorem spec_DrawTurnShape.mono : ∀ a0 k, LeO (spec_DrawTurnShape.f k a0) (spec_DrawTurnShape.f (k + 1) a0) := by
 intro a0 k
 unfold spec_DrawTurnShape.f
 repeat' first
   | (with_reducible exact spec_l1New.mono _ _)
   | (with_reducible exact spec_l4Bent.mono _ _ _ _ _)
   | (with_reducible exact LeO.refl _)
   | (with_reducible exact LeO.none _)
   | (with_reducible refine LeO.ite ?_ ?_)
   | (with_reducible refine LeO.bind ?_ (fun _ => ?_))
   | exact spec_l1New.mono _ _
   | exact spec_l4Bent.mono _ _ _ _ _
   | exact LeO.none _
   | refine LeO.ite ?_ ?_
   | refine LeO.bind ?_ (fun _ => ?_)
set_option maxHeartbeats 8000000 in
set_option maxRecDepth 100000 in
theorem spec_DrawTurnShape.calls (k : Nat) (A0 : Option Addr) (c0 : Nat) (l0 : List Int) (r1 : List Int) (r2 : List Int) (w : World) (hr0 : Kd.C (Kd.int .u8) w A0 l0.length l0) (hc0 : l0.length ≤ c0) (h : spec_DrawTurnShape.f k l0 = some (r1, r2)) :
  Calls Tryz.prog 5 #[.slice A0 l0.length c0] w fun e w' => ∃ v0_ v1_ : Value, e = .returned (.agg #[v0_, v1_]) ∧ Kd.R (Kd.int .i64) 3 w' w.heap.size (fun k_ => some k_ ≠ (v1_ : Value).ownBlock) v0_ r1 ∧ Kd.R (Kd.int .i64) 3 w' w.heap.size (fun k_ => some k_ ≠ (v0_ : Value).ownBlock) v1_ r2 ∧ Below w.heap.size w w' := by
 have hu26 := Tryz.underlying26
 have HR0 := Aside0.mk hr0
 have HC0 := Aside0.mk hc0
 clear hr0 hc0
 have HB := Aside0.mk (Below.refl w.heap.size w)
 have H : ((spec_l1New.f k l0).bind fun bt225 => ((spec_l4Bent.f k bt225.1 bt225.2.1 bt225.2.2 9).bind fun bt229 => (some (bt229.1, bt229.2.1)))) = some (r1, r2) := h
 clear h
 replace H := Option.bind_eq_some_iff.mp H
 obtain ⟨⟨t225, t226, t227⟩, A20, H⟩ := H
 replace H : ((spec_l4Bent.f k t225 t226 t227 9).bind fun bt229 => (some (bt229.1, bt229.2.1))) = some (r1, r2) := H
 have A2 := Aside0.mk A20
 clear A20
 replace H := Option.bind_eq_some_iff.mp H
 obtain ⟨⟨t229, t232, t235, t236⟩, A30, H⟩ := H
 replace H : (some (t229, t232)) = some (r1, r2) := H
 have A3 := Aside0.mk A30
 clear A30
 simp only [Option.some.injEq, Prod.mk.injEq] at H
 obtain ⟨rfl, rfl⟩ := H
 go_enter Tryz.func5, Tryz.ntmps5
 go_wp2_with (first | (refine boxE 2 #[.slice none 0 0, .slice none 0 0] 26 rfl ?_; intro gb224 hg w4 hbox hb; have BK224 := Aside0.mk (hbox); have GW224 := Aside0.mk ((by rw [hg]; exact (below_size bnow) : w.heap.size ≤ gb224)); have GE224 := Aside0.mk ((by rw [hg]; exact (below_size bnow) : w.heap.size ≤ gb224)); replace HB := Aside0.mk (below_step bnow hb); clear hb hbox hg) | ((with_reducible refine gate_callee (f := 31) rfl ?_); refine goesL_ (some 4) rfl rfl Tryz.func31 (by kernel_rfl) rfl #[.slice A0 l0.length c0] rfl lm ?_; (with_reducible refine (spec_l1New.calls k _ _ l0 t225 t226 t227 w _ (bn HB.out) HR0.out HC0.out A2.out).mono ?_); rintro e w5 ⟨g228, rfl, hi, hb, hb2⟩; refine ⟨_, rfl, ?_⟩; replace HB := Aside0.mk (hb); have HI228 := Aside0.mk (hi); have NB228_224 := Aside0.mk (IsS60.ne_blk hi (blk_below (bk BK224.out) hb2) (by decide)); have NB224_228 := Aside0.mk (Ne.symm (IsS60.ne_blk hi (blk_below (bk BK224.out) hb2) (by decide))); replace BK224 := Aside0.mk (blk_below (bk BK224.out) hb2); (try clear hb); (try clear hb2); (try clear hk); (try clear hi)) | ((with_reducible refine gate_callee (f := 30) rfl ?_); refine goesL_ (some 5) rfl rfl Tryz.func30 (by kernel_rfl) rfl #[.pointer (some ⟨g228, 0, none⟩), .int .i64 9] rfl lm ?_; (with_reducible refine (spec_l4Bent.calls k g228 t225 t226 t227 9 t229 t232 t235 t236 w _ (inow HI228.out) (bi HB.out) A3.out).mono ?_); rintro e w6 ⟨v230, v233, rfl, ho0, ho1, hi, hb, hk⟩; refine ⟨_, rfl, ?_⟩; replace BK224 := Aside0.mk (KeepBut.blk hk (g' := gb224) (o := .cells #[.slice none 0 0, .slice none 0 0] 26 (0, 0)) (bk BK224.out) NB224_228.out (by simp)); have HO231 := Aside0.mk (Kd.R_lower ho0 (below_size (bi HB.out))); have HO234 := Aside0.mk (Kd.R_lower ho1 (below_size (bi HB.out))); replace HB := Aside0.mk (hb); replace HI228 := Aside0.mk (hi); (try clear hb); (try clear hb2); (try clear hk); (try clear hi); (try clear ho0); (try clear ho1); obtain ⟨Ao7, co7, eo7⟩ := Kd.R_slice HO231.out; subst eo7; have hnb8 := NB224_228.out; have hnc8 := NB228_224.out; have hcz9_0 : w6.cell? ⟨gb224, 0, none⟩ = some (.slice none 0 0) := (blk_cell BK224.out 0).trans rfl; have hcz9_1 : w6.cell? ⟨gb224, 1, none⟩ = some (.slice none 0 0) := (blk_cell BK224.out 1).trans rfl; have hfz9_0 := blk_frozen BK224.out 0; have hfz9_1 := blk_frozen BK224.out 1; obtain ⟨Ao10, co10, eo10⟩ := Kd.R_slice HO234.out; subst eo10))
 refine bodyPost_ret (results_cell_row rfl _ _ gb224 26 #[.slice Ao7 t229.length co7, .slice Ao10 t232.length co10] (0, 0) _ rfl (by (with_reducible repeat (first | refine blk_drewN ?_ _ | refine blk_drew ?_ | refine blk_alloc ?_ _)); refine blk_put (cs := #[.slice Ao7 t229.length co7, .slice none 0 0]) ?_ 1 _ rfl; (with_reducible repeat (first | refine blk_drewN ?_ _ | refine blk_drew ?_ | refine blk_alloc ?_ _)); refine blk_put (cs := #[.slice none 0 0, .slice none 0 0]) ?_ 0 _ rfl; (with_reducible repeat (first | refine blk_drewN ?_ _ | refine blk_drew ?_ | refine blk_alloc ?_ _)); exact BK224.out) Tryz.underlying26 rfl (by kernel_rfl)) rfl ?_
 exact ⟨_, _, by first | rfl | (simp [errW_none, errW_some] <;> rfl) | (simp [*, errW_none, errW_some] <;> rfl), by (with_reducible repeat (first | apply Kd.R_alloc | apply Kd.R_drewN | apply Kd.R_drew)); exact Kd.R_mono (Kd.R_far (p := ⟨gb224, 1, none⟩) (Kd.R_far (p := ⟨gb224, 0, none⟩) (Kd.R_types HO231.out BK224.out (by decide)) (fun _ hk => hk.2) (.slice Ao7 t229.length co7)) (fun _ hk => hk.2) (.slice Ao10 t232.length co10)) (fun _ hk => hk.1), by (with_reducible repeat (first | apply Kd.R_alloc | apply Kd.R_drewN | apply Kd.R_drew)); exact Kd.R_mono (Kd.R_far (p := ⟨gb224, 1, none⟩) (Kd.R_far (p := ⟨gb224, 0, none⟩) (Kd.R_types HO234.out BK224.out (by decide)) (fun _ hk => hk.2) (.slice Ao7 t229.length co7)) (fun _ hk => hk.2) (.slice Ao10 t232.length co10)) (fun _ hk => hk.1), bi HB.out⟩

/-! ### impl_within: function 66 -/
def impl_within.f (a0 : Int) (a1 : Int) (a2 : Int) : Option (Bool) := if a1 ≤ a0 then (some (decide (a0 ≤ a2))) else (some false)
set_option maxHeartbeats 8000000 in
set_option maxRecDepth 100000 in
theorem impl_within.calls (a0 : Int) (a1 : Int) (a2 : Int) (r : Bool) (w : World) (h : impl_within.f a0 a1 a2 = some r) :
  Calls Tryz.prog 66 #[.int .i64 a0, .int .i64 a1, .int .i64 a2] w fun e w' => e = .returned (.bool r) ∧ Drawn0 w w' := by
 have H : (if a1 ≤ a0 then (some (decide (a0 ≤ a2))) else (some false)) = some r := h
 clear h
 by_cases c4 : a1 ≤ a0
 ·rw [if_pos c4] at H
  have c4b0 : decide (a1 ≤ a0) = true := decide_eq_true c4
  clear c4
  obtain rfl := Option.some.inj H
  go_enter Tryz.func66, Tryz.ntmps66
  go_wp2
  go_ret
  exact ⟨by first | rfl | (simp; done) | (simp [*]; done), by repeat (first | exact Drawn0.refl _ | apply Drawn0.step)⟩
 ·rw [if_neg c4] at H
  have c4b0 : decide (a1 ≤ a0) = false := decide_eq_false c4
  clear c4
  obtain rfl := Option.some.inj H
  go_enter Tryz.func66, Tryz.ntmps66
  go_wp2
  go_ret
  exact ⟨by first | rfl | (simp; done) | (simp [*]; done), by repeat (first | exact Drawn0.refl _ | apply Drawn0.step)⟩

/-! ### impl_at: function 43 -/
def impl_at.f (l0 : List Int) (a1 : Int) : Option (Int) := (impl_within.f a1 0 (wrap64 ((l0.length : Int) - 1))).bind fun t237 => (if t237 = true then (if 0 ≤ a1 then (if a1 < (l0.length : Int) then (some (rd l0 a1)) else (none)) else (none)) else (some 0))
set_option maxHeartbeats 8000000 in
set_option maxRecDepth 100000 in
theorem impl_at.calls (A0 : Option Addr) (c0 : Nat) (l0 : List Int) (a1 : Int) (r : Int) (w : World) (hr0 : Kd.C (Kd.int .i64) w A0 l0.length l0) (hc0 : l0.length ≤ c0) (h : impl_at.f l0 a1 = some r) :
  Calls Tryz.prog 43 #[.slice A0 l0.length c0, .int .i64 a1] w fun e w' => e = .returned (.int .i64 r) ∧ Drawn0 w w' := by
 have HR0 := Aside0.mk hr0
 have HC0 := Aside0.mk hc0
 clear hr0 hc0
 have H : ((impl_within.f a1 0 (wrap64 ((l0.length : Int) - 1))).bind fun t237 => (if t237 = true then (if 0 ≤ a1 then (if a1 < (l0.length : Int) then (some (rd l0 a1)) else (none)) else (none)) else (some 0))) = some r := h
 clear h
 replace H := Option.bind_eq_some_iff.mp H
 obtain ⟨t237, A30, H⟩ := H
 replace H : (if t237 = true then (if 0 ≤ a1 then (if a1 < (l0.length : Int) then (some (rd l0 a1)) else (none)) else (none)) else (some 0)) = some r := H
 have A3 := Aside0.mk A30
 clear A30
 by_cases c4 : t237 = true
 ·subst c4
  have H1 : (if 0 ≤ a1 then (if a1 < (l0.length : Int) then (some (rd l0 a1)) else (none)) else (none)) = some r := by rw [if_pos rfl] at H; exact H
  clear H
  have H := H1
  clear H1
  by_cases c5 : 0 ≤ a1
  ·rw [if_pos c5] at H
   have c5b0 : decide (0 ≤ a1) = true := decide_eq_true c5
   clear c5
   by_cases c6 : a1 < (l0.length : Int)
   ·rw [if_pos c6] at H
    have c6b0 : decide (a1 < (l0.length : Int)) = true := decide_eq_true c6
    clear c6
    obtain rfl := Option.some.inj H
    go_enter Tryz.func43, Tryz.ntmps43
    go_wp2_with (first | ((with_reducible refine gate_callee (f := 66) rfl ?_); refine goesL_ (some 9) rfl rfl Tryz.func66 (by kernel_rfl) rfl #[.int .i64 a1, .int .i64 0, .int .i64 (wrap64 ((l0.length : Int) - 1))] rfl lm ?_; (with_reducible refine (impl_within.calls a1 0 (wrap64 ((l0.length : Int) - 1)) true _ A3.out).mono ?_); rintro e w' ⟨rfl, ⟨nd, rfl⟩⟩; refine ⟨_, rfl, ?_⟩; have p238 : 0 ≤ (a1 : Int) := of_decide_eq_true asm; have q238 : a1 < (l0.length : Int) := of_decide_eq_true asm; obtain ⟨ad238, e238, hx238_0⟩ := Kd.at_int HR0.out a1 p238 q238; cases e238; replace p238 := eq_true p238; replace q238 := eq_true q238))
    go_ret
    exact ⟨by first | rfl | (simp; done) | (simp [*]; done), by repeat (first | exact Drawn0.refl _ | apply Drawn0.step)⟩
   ·rw [if_neg c6] at H
    exact absurd H (by simp)
  ·rw [if_neg c5] at H
   exact absurd H (by simp)
 ·replace c4 := Bool.eq_false_iff.mpr c4
  subst c4
  have H1 : (some 0) = some r := by rw [if_neg (show ¬ (false = true) by decide)] at H; exact H
  clear H
  have H := H1
  clear H1
  obtain rfl := Option.some.inj H
  go_enter Tryz.func43, Tryz.ntmps43
  go_wp2_with (first | ((with_reducible refine gate_callee (f := 66) rfl ?_); refine goesL_ (some 9) rfl rfl Tryz.func66 (by kernel_rfl) rfl #[.int .i64 a1, .int .i64 0, .int .i64 (wrap64 ((l0.length : Int) - 1))] rfl lm ?_; (with_reducible refine (impl_within.calls a1 0 (wrap64 ((l0.length : Int) - 1)) false _ A3.out).mono ?_); rintro e w' ⟨rfl, ⟨nd, rfl⟩⟩; refine ⟨_, rfl, ?_⟩))
  go_ret
  exact ⟨by first | rfl | (simp; done) | (simp [*]; done), by repeat (first | exact Drawn0.refl _ | apply Drawn0.step)⟩

/-! ### impl_IsPartition: function 56 -/
mutual
def impl_IsPartition.l0 : Nat → List Int → Int → List Int → Int → Int → Option (Bool)
 | 0, _, _, _, _, _ => none
 | k + 1, x0, x3, x6, x7, x8 => if x8 < x7 then (if 0 ≤ x8 then (if x8 < (x6.length : Int) then ((impl_within.f (rd x6 x8) 1 9).bind fun t240 => (if t240 = true then (if x8 > 0 then (if 0 ≤ (wrap64 (x8 - 1)) then (if (wrap64 (x8 - 1)) < (x0.length : Int) then (impl_IsPartition.j1 k x0 x3 (rd x6 x8) x6 x7 x8 (decide ((rd x6 x8) > (rd x0 (wrap64 (x8 - 1)))))) else (none)) else (none)) else (impl_IsPartition.j1 k x0 x3 (rd x6 x8) x6 x7 x8 false)) else (impl_IsPartition.j1 k x0 x3 (rd x6 x8) x6 x7 x8 true))) else (none)) else (none)) else (some true)
def impl_IsPartition.j1 : Nat → List Int → Int → Int → List Int → Int → Int → Bool → Option (Bool)
 | 0, _, _, _, _, _, _, _ => none
 | k + 1, x0, x3, x5, x6, x7, x8, x28 => if x28 = true then (some false) else (if (wrap64 (x3 + x5)) > 9 then (some false) else (impl_IsPartition.l0 k x0 (wrap64 (x3 + x5)) x6 x7 (wrap64 (x8 + 1))))
end
def impl_IsPartition.f (k : Nat) (l0 : List Int) : Option (Bool) := impl_IsPartition.l0 k l0 0 l0 (l0.length : Int) 0
theorem impl_IsPartition.mono_l : ∀ k, (∀ y0 y1 y2 y3 y4, LeO (impl_IsPartition.l0 k y0 y1 y2 y3 y4) (impl_IsPartition.l0 (k + 1) y0 y1 y2 y3 y4)) ∧ (∀ y0 y1 y2 y3 y4 y5 y6, LeO (impl_IsPartition.j1 k y0 y1 y2 y3 y4 y5 y6) (impl_IsPartition.j1 (k + 1) y0 y1 y2 y3 y4 y5 y6))
 | 0 => ⟨fun _ _ _ _ _ r h => by simp [impl_IsPartition.l0] at h, fun _ _ _ _ _ _ _ r h => by simp [impl_IsPartition.j1] at h⟩
 | k + 1 => by
  obtain ⟨ih0, ih1⟩ := impl_IsPartition.mono_l k
  refine ⟨?_, ?_⟩
  ·intro y0 y1 y2 y3 y4
   unfold impl_IsPartition.l0
   repeat' first
   | (with_reducible exact ih0 _ _ _ _ _)
   | (with_reducible exact ih1 _ _ _ _ _ _ _)
   | (with_reducible exact LeO.refl _)
   | (with_reducible exact LeO.none _)
   | (with_reducible refine LeO.ite ?_ ?_)
   | (with_reducible refine LeO.bind ?_ (fun _ => ?_))
   | exact ih0 _ _ _ _ _
   | exact ih1 _ _ _ _ _ _ _
   | exact LeO.none _
   | refine LeO.ite ?_ ?_
   | refine LeO.bind ?_ (fun _ => ?_)
  ·intro y0 y1 y2 y3 y4 y5 y6
   unfold impl_IsPartition.j1
   repeat' first
   | (with_reducible exact ih0 _ _ _ _ _)
   | (with_reducible exact ih1 _ _ _ _ _ _ _)
   | (with_reducible exact LeO.refl _)
   | (with_reducible exact LeO.none _)
   | (with_reducible refine LeO.ite ?_ ?_)
   | (with_reducible refine LeO.bind ?_ (fun _ => ?_))
   | exact ih0 _ _ _ _ _
   | exact ih1 _ _ _ _ _ _ _
   | exact LeO.none _
   | refine LeO.ite ?_ ?_
   | refine LeO.bind ?_ (fun _ => ?_)
theorem impl_IsPartition.mono : ∀ a0 k, LeO (impl_IsPartition.f k a0) (impl_IsPartition.f (k + 1) a0) := by
 intro a0 k
 obtain ⟨ih0, ih1⟩ := impl_IsPartition.mono_l k
 unfold impl_IsPartition.f
 repeat' first
   | (with_reducible exact ih0 _ _ _ _ _)
   | (with_reducible exact ih1 _ _ _ _ _ _ _)
   | (with_reducible exact LeO.refl _)
   | (with_reducible exact LeO.none _)
   | (with_reducible refine LeO.ite ?_ ?_)
   | (with_reducible refine LeO.bind ?_ (fun _ => ?_))
   | exact ih0 _ _ _ _ _
   | exact ih1 _ _ _ _ _ _ _
   | exact LeO.none _
   | refine LeO.ite ?_ ?_
   | refine LeO.bind ?_ (fun _ => ?_)
set_option maxHeartbeats 8000000 in
set_option maxRecDepth 100000 in
theorem impl_IsPartition.calls (k : Nat) (A0 : Option Addr) (c0 : Nat) (l0 : List Int) (r : Bool) (w : World) (hr0 : Kd.C (Kd.int .i64) w A0 l0.length l0) (hc0 : l0.length ≤ c0) (h : impl_IsPartition.f k l0 = some r) :
  Calls Tryz.prog 56 #[.slice A0 l0.length c0] w fun e w' => e = .returned (.bool r) ∧ Drawn0 w w' := by
 have HR0 := Aside0.mk hr0
 have HC0 := Aside0.mk hc0
 clear hr0 hc0
 have H : (impl_IsPartition.l0 k l0 0 l0 (l0.length : Int) 0) = some r := h
 clear h
 have H' := Aside0.mk H
 clear H
 go_enter Tryz.func56, Tryz.ntmps56
 go_wp2
 go_loopg [3, 8] k (fun kq v3 v8 w' => ∃ (x3_1 : Int) (x8_1 : Int), v3 = .int .i64 x3_1 ∧ v8 = .int .i64 x8_1 ∧ Aside0 (impl_IsPartition.l0 kq l0 x3_1 l0 (l0.length : Int) x8_1 = some r) ∧ Aside0 (kq ≤ k) ∧ Drawn0 w w')
 case atStart => exact ⟨(0), (0), (by first | rfl | (simp; done) | (simp [*]; done)), (by first | rfl | (simp; done) | (simp [*]; done)), H', ⟨Nat.le_refl _⟩, by repeat (first | exact Drawn0.refl _ | apply Drawn0.step)⟩
 case round =>
  clear H'
  obtain ⟨x3_1, x8_1, rfl, rfl, HA, HK1, ⟨m1, rfl⟩⟩ := hrel
  cases gk with
  | zero => exact absurd HA.out (by simp [impl_IsPartition.l0])
  | succ k1 =>
   have H := HA.out
   clear HA
   simp only [impl_IsPartition.l0] at H
   by_cases c2 : x8_1 < (l0.length : Int)
   ·rw [if_pos c2] at H
    have c2b0 : decide (x8_1 < (l0.length : Int)) = true := decide_eq_true c2
    clear c2
    by_cases c3 : 0 ≤ x8_1
    ·rw [if_pos c3] at H
     have c3b0 : decide (0 ≤ x8_1) = true := decide_eq_true c3
     clear c3
     by_cases c4 : x8_1 < (l0.length : Int)
     ·rw [if_pos c4] at H
      have c4b0 : decide (x8_1 < (l0.length : Int)) = true := decide_eq_true c4
      clear c4
      have HC5 := Aside0.mk H
      clear H
      have p239 : 0 ≤ (x8_1 : Int) := of_decide_eq_true asm
      have q239 : x8_1 < (l0.length : Int) := of_decide_eq_true asm
      obtain ⟨ad239, e239, hx239_0⟩ := Kd.at_int HR0.out x8_1 p239 q239
      cases e239
      replace p239 := eq_true p239
      replace q239 := eq_true q239
      go_upto_region 5 with (fail)
      go_cut [28] (fun v28 wc => ∃ (kq : Nat) (x28_4 : Bool), v28 = .bool x28_4 ∧ Aside0 (impl_IsPartition.j1 kq l0 x3_1 (rd l0 x8_1) l0 (l0.length : Int) x8_1 x28_4 = some r) ∧ Aside0 (kq ≤ k1) ∧ Drawn0 w wc)
      case first =>
       have H := HC5.out
       clear HC5
       replace H := Option.bind_eq_some_iff.mp H
       obtain ⟨t240, A60, H⟩ := H
       replace H : (if t240 = true then (if x8_1 > 0 then (if 0 ≤ (wrap64 (x8_1 - 1)) then (if (wrap64 (x8_1 - 1)) < (l0.length : Int) then (impl_IsPartition.j1 k1 l0 x3_1 (rd l0 x8_1) l0 (l0.length : Int) x8_1 (decide ((rd l0 x8_1) > (rd l0 (wrap64 (x8_1 - 1)))))) else (none)) else (none)) else (impl_IsPartition.j1 k1 l0 x3_1 (rd l0 x8_1) l0 (l0.length : Int) x8_1 false)) else (impl_IsPartition.j1 k1 l0 x3_1 (rd l0 x8_1) l0 (l0.length : Int) x8_1 true)) = some r := H
       have A6 := Aside0.mk A60
       clear A60
       by_cases c7 : t240 = true
       ·subst c7
        have H1 : (if x8_1 > 0 then (if 0 ≤ (wrap64 (x8_1 - 1)) then (if (wrap64 (x8_1 - 1)) < (l0.length : Int) then (impl_IsPartition.j1 k1 l0 x3_1 (rd l0 x8_1) l0 (l0.length : Int) x8_1 (decide ((rd l0 x8_1) > (rd l0 (wrap64 (x8_1 - 1)))))) else (none)) else (none)) else (impl_IsPartition.j1 k1 l0 x3_1 (rd l0 x8_1) l0 (l0.length : Int) x8_1 false)) = some r := by rw [if_pos rfl] at H; exact H
        clear H
        have H := H1
        clear H1
        by_cases c8 : x8_1 > 0
        ·rw [if_pos c8] at H
         have c8b0 : decide (0 < x8_1) = true := decide_eq_true c8
         clear c8
         (first | rw [c8b0] | (simp only [i64_w, i32_w]; rw [c8b0]) | skip)
         obtain ⟨ji9, hji9⟩ : ∃ j_ : Int, (wrap64 (x8_1 - 1)) = j_ := ⟨_, rfl⟩
         replace H : (if 0 ≤ (ji9) then (if (ji9) < (l0.length : Int) then (impl_IsPartition.j1 k1 l0 x3_1 (rd l0 x8_1) l0 (l0.length : Int) x8_1 (decide ((rd l0 x8_1) > (rd l0 (ji9))))) else (none)) else (none)) = some r := by first | (rw [hji9] at H; exact H) | (simp only [hji9] at H ⊢; exact H)
         (try rw [hji9] at A6)
         have hji9w : (IntKind.i64.wrap (x8_1 - 1)) = ji9 := (i64_w _).trans hji9
         by_cases c10 : 0 ≤ (ji9)
         ·rw [if_pos c10] at H
          have c10b0 : decide (0 ≤ (ji9)) = true := decide_eq_true c10
          clear c10
          by_cases c11 : (ji9) < (l0.length : Int)
          ·rw [if_pos c11] at H
           have c11b0 : decide ((ji9) < (l0.length : Int)) = true := decide_eq_true c11
           clear c11
           have H' := Aside0.mk H
           clear H
           go_wp2_with (first | ((with_reducible refine gate_callee (f := 66) rfl ?_); refine goesL_ (some 14) rfl rfl Tryz.func66 (by kernel_rfl) rfl #[.int .i64 (rd l0 x8_1), .int .i64 1, .int .i64 9] rfl lm ?_; (with_reducible refine (impl_within.calls (rd l0 x8_1) 1 9 true _ A6.out).mono ?_); rintro e w' ⟨rfl, ⟨nd, rfl⟩⟩; refine ⟨_, rfl, ?_⟩; have p241 : 0 ≤ ((ji9) : Int) := of_decide_eq_true asm; have q241 : (ji9) < (l0.length : Int) := of_decide_eq_true asm; obtain ⟨ad241, e241, hx241_0⟩ := Kd.at_int HR0.out (ji9) p241 q241; obtain rfl : ad239 = ad241 := (by injection e241); replace p241 := eq_true p241; replace q241 := eq_true q241))
           go_meet
           case rel => exact ⟨_, (decide ((rd l0 x8_1) > (rd l0 (ji9)))), (by first | rfl | (simp; done) | (simp only [← hji9] <;> (first | rfl | simp)) | (simp [*]; done)), H', ⟨by have := HK1.out; first | omega | exact Nat.le_refl _⟩, by repeat (first | exact Drawn0.refl _ | apply Drawn0.step)⟩
          ·rw [if_neg c11] at H
           exact absurd H (by simp)
         ·rw [if_neg c10] at H
          exact absurd H (by simp)
        ·rw [if_neg c8] at H
         have c8b0 : decide (0 < x8_1) = false := decide_eq_false c8
         clear c8
         (first | rw [c8b0] | (simp only [i64_w, i32_w]; rw [c8b0]) | skip)
         have H' := Aside0.mk H
         clear H
         go_wp2_with (first | ((with_reducible refine gate_callee (f := 66) rfl ?_); refine goesL_ (some 14) rfl rfl Tryz.func66 (by kernel_rfl) rfl #[.int .i64 (rd l0 x8_1), .int .i64 1, .int .i64 9] rfl lm ?_; (with_reducible refine (impl_within.calls (rd l0 x8_1) 1 9 true _ A6.out).mono ?_); rintro e w' ⟨rfl, ⟨nd, rfl⟩⟩; refine ⟨_, rfl, ?_⟩))
         go_meet
         case rel => exact ⟨_, (false), (by first | rfl | (simp; done) | (simp [*]; done)), H', ⟨by have := HK1.out; first | omega | exact Nat.le_refl _⟩, by repeat (first | exact Drawn0.refl _ | apply Drawn0.step)⟩
       ·replace c7 := Bool.eq_false_iff.mpr c7
        subst c7
        have H1 : (impl_IsPartition.j1 k1 l0 x3_1 (rd l0 x8_1) l0 (l0.length : Int) x8_1 true) = some r := by rw [if_neg (show ¬ (false = true) by decide)] at H; exact H
        clear H
        have H := H1
        clear H1
        have H' := Aside0.mk H
        clear H
        go_wp2_with (first | ((with_reducible refine gate_callee (f := 66) rfl ?_); refine goesL_ (some 14) rfl rfl Tryz.func66 (by kernel_rfl) rfl #[.int .i64 (rd l0 x8_1), .int .i64 1, .int .i64 9] rfl lm ?_; (with_reducible refine (impl_within.calls (rd l0 x8_1) 1 9 false _ A6.out).mono ?_); rintro e w' ⟨rfl, ⟨nd, rfl⟩⟩; refine ⟨_, rfl, ?_⟩))
        go_meet
        case rel => exact ⟨_, (true), (by first | rfl | (simp; done) | (simp [*]; done)), H', ⟨by have := HK1.out; first | omega | exact Nat.le_refl _⟩, by repeat (first | exact Drawn0.refl _ | apply Drawn0.step)⟩
      case rest =>
       clear HC5
       try clear c1
       try clear c2
       try clear c2b0
       try clear p2
       try clear q2
       try clear hx2
       try clear c3
       try clear c3b0
       try clear c4
       try clear c4b0
       try clear c5
       try clear c6
       try clear p6
       try clear c7
       try clear c8
       try clear c8b0
       try clear c10
       try clear c10b0
       try clear c11
       try clear c11b0
       try clear hx239_0
       try clear hx241_0
       try clear p239
       try clear p241
       try clear q239
       try clear q241
       obtain ⟨kq, x28_4, rfl, HA, HJ4, ⟨mc4, rfl⟩⟩ := hcut
       cases kq with
       | zero => exact absurd HA.out (by simp [impl_IsPartition.j1])
       | succ kj4 =>
        have H := HA.out
        clear HA
        simp only [impl_IsPartition.j1] at H
        by_cases c12 : x28_4 = true
        ·subst c12
         have H1 : (some false) = some r := by rw [if_pos rfl] at H; exact H
         clear H
         have H := H1
         clear H1
         obtain rfl := Option.some.inj H
         go_wp2
         go_ret
         exact ⟨by first | rfl | (simp; done) | (simp [*]; done), by repeat (first | exact Drawn0.refl _ | apply Drawn0.step)⟩
        ·replace c12 := Bool.eq_false_iff.mpr c12
         subst c12
         have H1 : (if (wrap64 (x3_1 + (rd l0 x8_1))) > 9 then (some false) else (impl_IsPartition.l0 kj4 l0 (wrap64 (x3_1 + (rd l0 x8_1))) l0 (l0.length : Int) (wrap64 (x8_1 + 1)))) = some r := by rw [if_neg (show ¬ (false = true) by decide)] at H; exact H
         clear H
         have H := H1
         clear H1
         by_cases c13 : (wrap64 (x3_1 + (rd l0 x8_1))) > 9
         ·rw [if_pos c13] at H
          have c13b0 : decide (9 < (wrap64 (x3_1 + (rd l0 x8_1)))) = true := decide_eq_true c13
          clear c13
          obtain rfl := Option.some.inj H
          go_wp2
          go_ret
          exact ⟨by first | rfl | (simp; done) | (simp [*]; done), by repeat (first | exact Drawn0.refl _ | apply Drawn0.step)⟩
         ·rw [if_neg c13] at H
          have c13b0 : decide (9 < (wrap64 (x3_1 + (rd l0 x8_1)))) = false := decide_eq_false c13
          clear c13
          have H' := Aside0.mk H
          clear H
          go_wp2
          go_roundg kj4
          case measure => have := HK1.out; have := HJ4.out; omega
          case rel => exact ⟨(wrap64 (x3_1 + (rd l0 x8_1))), (wrap64 (x8_1 + 1)), (by first | rfl | (simp; done) | (simp [*]; done)), (by first | rfl | (simp; done) | (simp [*]; done)), H', ⟨by have := HK1.out; have := HJ4.out; omega⟩, by repeat (first | exact Drawn0.refl _ | apply Drawn0.step)⟩
     ·rw [if_neg c4] at H
      exact absurd H (by simp)
    ·rw [if_neg c3] at H
     exact absurd H (by simp)
   ·rw [if_neg c2] at H
    have c2b0 : decide (x8_1 < (l0.length : Int)) = false := decide_eq_false c2
    clear c2
    obtain rfl := Option.some.inj H
    go_wp2
    go_ret
    exact ⟨by first | rfl | (simp; done) | (simp [*]; done), by repeat (first | exact Drawn0.refl _ | apply Drawn0.step)⟩

/-! ### impl_IsInside: function 48 -/
mutual
def impl_IsInside.j0 : Nat → List Int → List Int → Bool → Option (Bool)
 | 0, _, _, _ => none
 | k + 1, x0, x1, x14 => if x14 = true then (some false) else (impl_IsInside.l0 k x1 x0 (x0.length : Int) 0)
def impl_IsInside.l0 : Nat → List Int → List Int → Int → Int → Option (Bool)
 | 0, _, _, _, _ => none
 | k + 1, x1, x15, x16, x17 => if x17 < x16 then (if 0 ≤ x17 then (if x17 < (x15.length : Int) then ((impl_at.f x1 x17).bind fun t245 => (if (rd x15 x17) > t245 then (some false) else (impl_IsInside.l0 k x1 x15 x16 (wrap64 (x17 + 1))))) else (none)) else (none)) else (some true)
end
def impl_IsInside.f (k : Nat) (l0 : List Int) (l1 : List Int) : Option (Bool) := (impl_IsPartition.f k l0).bind fun t242 => (if t242 = true then ((impl_IsPartition.f k l1).bind fun t243 => (impl_IsInside.j0 k l0 l1 (!t243))) else (impl_IsInside.j0 k l0 l1 true))
theorem impl_IsInside.mono_l : ∀ k, (∀ y0 y1 y2, LeO (impl_IsInside.j0 k y0 y1 y2) (impl_IsInside.j0 (k + 1) y0 y1 y2)) ∧ (∀ y0 y1 y2 y3, LeO (impl_IsInside.l0 k y0 y1 y2 y3) (impl_IsInside.l0 (k + 1) y0 y1 y2 y3))
 | 0 => ⟨fun _ _ _ r h => by simp [impl_IsInside.j0] at h, fun _ _ _ _ r h => by simp [impl_IsInside.l0] at h⟩
 | k + 1 => by
  obtain ⟨ih0, ih1⟩ := impl_IsInside.mono_l k
  refine ⟨?_, ?_⟩
  ·intro y0 y1 y2
   unfold impl_IsInside.j0
   repeat' first
   | (with_reducible exact ih0 _ _ _)
   | (with_reducible exact ih1 _ _ _ _)
   | (with_reducible exact impl_IsPartition.mono _ _)
   | (with_reducible exact LeO.refl _)
   | (with_reducible exact LeO.none _)
   | (with_reducible refine LeO.ite ?_ ?_)
   | (with_reducible refine LeO.bind ?_ (fun _ => ?_))
   | exact ih0 _ _ _
   | exact ih1 _ _ _ _
   | exact impl_IsPartition.mono _ _
   | exact LeO.none _
   | refine LeO.ite ?_ ?_
   | refine LeO.bind ?_ (fun _ => ?_)
  ·intro y0 y1 y2 y3
   unfold impl_IsInside.l0
   repeat' first
   | (with_reducible exact ih0 _ _ _)
   | (with_reducible exact ih1 _ _ _ _)
   | (with_reducible exact impl_IsPartition.mono _ _)
   | (with_reducible exact LeO.refl _)
   | (with_reducible exact LeO.none _)
   | (with_reducible refine LeO.ite ?_ ?_)
   | (with_reducible refine LeO.bind ?_ (fun _ => ?_))
   | exact ih0 _ _ _
   | exact ih1 _ _ _ _
   | exact impl_IsPartition.mono _ _
   | exact LeO.none _
   | refine LeO.ite ?_ ?_
   | refine LeO.bind ?_ (fun _ => ?_)
theorem impl_IsInside.mono : ∀ a0 a1 k, LeO (impl_IsInside.f k a0 a1) (impl_IsInside.f (k + 1) a0 a1) := by
 intro a0 a1 k
 obtain ⟨ih0, ih1⟩ := impl_IsInside.mono_l k
 unfold impl_IsInside.f
 repeat' first
   | (with_reducible exact ih0 _ _ _)
   | (with_reducible exact ih1 _ _ _ _)
   | (with_reducible exact impl_IsPartition.mono _ _)
   | (with_reducible exact LeO.refl _)
   | (with_reducible exact LeO.none _)
   | (with_reducible refine LeO.ite ?_ ?_)
   | (with_reducible refine LeO.bind ?_ (fun _ => ?_))
   | exact ih0 _ _ _
   | exact ih1 _ _ _ _
   | exact impl_IsPartition.mono _ _
   | exact LeO.none _
   | refine LeO.ite ?_ ?_
   | refine LeO.bind ?_ (fun _ => ?_)
set_option maxHeartbeats 8000000 in
set_option maxRecDepth 100000 in
theorem impl_IsInside.calls (k : Nat) (A0 : Option Addr) (c0 : Nat) (l0 : List Int) (A1 : Option Addr) (c1 : Nat) (l1 : List Int) (r : Bool) (w : World) (hr0 : Kd.C (Kd.int .i64) w A0 l0.length l0) (hc0 : l0.length ≤ c0) (hr1 : Kd.C (Kd.int .i64) w A1 l1.length l1) (hc1 : l1.length ≤ c1) (h : impl_IsInside.f k l0 l1 = some r) :
  Calls Tryz.prog 48 #[.slice A0 l0.length c0, .slice A1 l1.length c1] w fun e w' => e = .returned (.bool r) ∧ Drawn0 w w' := by
 have HR0 := Aside0.mk hr0
 have HC0 := Aside0.mk hc0
 clear hr0 hc0
 have HR1 := Aside0.mk hr1
 have HC1 := Aside0.mk hc1
 clear hr1 hc1
 have H : ((impl_IsPartition.f k l0).bind fun t242 => (if t242 = true then ((impl_IsPartition.f k l1).bind fun t243 => (impl_IsInside.j0 k l0 l1 (!t243))) else (impl_IsInside.j0 k l0 l1 true))) = some r := h
 clear h
 have HC3 := Aside0.mk H
 clear H
 go_enter Tryz.func48, Tryz.ntmps48
 go_upto_region 1 with (fail)
 go_cut [14] (fun v14 wc => ∃ (kq : Nat) (x14_2 : Bool), v14 = .bool x14_2 ∧ Aside0 (impl_IsInside.j0 kq l0 l1 x14_2 = some r) ∧ Aside0 (kq ≤ k) ∧ Drawn0 w wc)
 case first =>
  have H := HC3.out
  clear HC3
  replace H := Option.bind_eq_some_iff.mp H
  obtain ⟨t242, A40, H⟩ := H
  replace H : (if t242 = true then ((impl_IsPartition.f k l1).bind fun t243 => (impl_IsInside.j0 k l0 l1 (!t243))) else (impl_IsInside.j0 k l0 l1 true)) = some r := H
  have A4 := Aside0.mk A40
  clear A40
  by_cases c5 : t242 = true
  ·subst c5
   have H1 : ((impl_IsPartition.f k l1).bind fun t243 => (impl_IsInside.j0 k l0 l1 (!t243))) = some r := by rw [if_pos rfl] at H; exact H
   clear H
   have H := H1
   clear H1
   replace H := Option.bind_eq_some_iff.mp H
   obtain ⟨t243, A60, H⟩ := H
   replace H : (impl_IsInside.j0 k l0 l1 (!t243)) = some r := H
   have A6 := Aside0.mk A60
   clear A60
   have H' := Aside0.mk H
   clear H
   go_wp2_with (first | ((with_reducible refine gate_callee (f := 56) rfl ?_); refine goesL_ (some 8) rfl rfl Tryz.func56 (by kernel_rfl) rfl #[.slice A0 l0.length c0] rfl lm ?_; (with_reducible refine (impl_IsPartition.calls k _ _ l0 true _ (cc HR0.out) HC0.out A4.out).mono ?_); rintro e w' ⟨rfl, ⟨nd, rfl⟩⟩; refine ⟨_, rfl, ?_⟩) | (go_at_call 56; (with_reducible refine (impl_IsPartition.calls k _ _ l1 t243 _ (cc HR1.out) HC1.out A6.out).mono ?_); rintro e w' ⟨rfl, ⟨nd, rfl⟩⟩))
   go_meet
   case rel => exact ⟨_, (!t243), (by first | rfl | (simp; done) | (simp [*]; done)), H', ⟨by first | omega | exact Nat.le_refl _⟩, by repeat (first | exact Drawn0.refl _ | apply Drawn0.step)⟩
  ·replace c5 := Bool.eq_false_iff.mpr c5
   subst c5
   have H1 : (impl_IsInside.j0 k l0 l1 true) = some r := by rw [if_neg (show ¬ (false = true) by decide)] at H; exact H
   clear H
   have H := H1
   clear H1
   have H' := Aside0.mk H
   clear H
   go_wp2_with (first | ((with_reducible refine gate_callee (f := 56) rfl ?_); refine goesL_ (some 8) rfl rfl Tryz.func56 (by kernel_rfl) rfl #[.slice A0 l0.length c0] rfl lm ?_; (with_reducible refine (impl_IsPartition.calls k _ _ l0 false _ (cc HR0.out) HC0.out A4.out).mono ?_); rintro e w' ⟨rfl, ⟨nd, rfl⟩⟩; refine ⟨_, rfl, ?_⟩))
   go_meet
   case rel => exact ⟨_, (true), (by first | rfl | (simp; done) | (simp [*]; done)), H', ⟨by first | omega | exact Nat.le_refl _⟩, by repeat (first | exact Drawn0.refl _ | apply Drawn0.step)⟩
 case rest =>
  clear HC3
  try clear c1
  try clear p2
  try clear c4
  try clear c5
  obtain ⟨kq, x14_2, rfl, HA, HJ2, ⟨mc2, rfl⟩⟩ := hcut
  cases kq with
  | zero => exact absurd HA.out (by simp [impl_IsInside.j0])
  | succ kj2 =>
   have H := HA.out
   clear HA
   simp only [impl_IsInside.j0] at H
   by_cases c7 : x14_2 = true
   ·subst c7
    have H1 : (some false) = some r := by rw [if_pos rfl] at H; exact H
    clear H
    have H := H1
    clear H1
    obtain rfl := Option.some.inj H
    go_wp2
    go_ret
    exact ⟨by first | rfl | (simp; done) | (simp [*]; done), by repeat (first | exact Drawn0.refl _ | apply Drawn0.step)⟩
   ·replace c7 := Bool.eq_false_iff.mpr c7
    subst c7
    have H1 : (impl_IsInside.l0 kj2 l1 l0 (l0.length : Int) 0) = some r := by rw [if_neg (show ¬ (false = true) by decide)] at H; exact H
    clear H
    have H := H1
    clear H1
    have H' := Aside0.mk H
    clear H
    go_wp2
    go_loopg [17] kj2 (fun kq v17 w' => ∃ (x17_2 : Int), v17 = .int .i64 x17_2 ∧ Aside0 (impl_IsInside.l0 kq l1 l0 (l0.length : Int) x17_2 = some r) ∧ Aside0 (kq ≤ kj2) ∧ Drawn0 w w')
    case atStart => exact ⟨(0), (by first | rfl | (simp; done) | (simp [*]; done)), H', ⟨Nat.le_refl _⟩, by repeat (first | exact Drawn0.refl _ | apply Drawn0.step)⟩
    case round =>
     clear H'
     try clear c1
     try clear c2
     try clear p2
     try clear c4
     try clear c5
     try clear c7
     try clear p2
     obtain ⟨x17_2, rfl, HA, HK2, ⟨m2, rfl⟩⟩ := hrel
     cases gk with
     | zero => exact absurd HA.out (by simp [impl_IsInside.l0])
     | succ k2 =>
      have H := HA.out
      clear HA
      simp only [impl_IsInside.l0] at H
      by_cases c8 : x17_2 < (l0.length : Int)
      ·rw [if_pos c8] at H
       have c8b0 : decide (x17_2 < (l0.length : Int)) = true := decide_eq_true c8
       clear c8
       by_cases c9 : 0 ≤ x17_2
       ·rw [if_pos c9] at H
        have c9b0 : decide (0 ≤ x17_2) = true := decide_eq_true c9
        clear c9
        by_cases c10 : x17_2 < (l0.length : Int)
        ·rw [if_pos c10] at H
         have c10b0 : decide (x17_2 < (l0.length : Int)) = true := decide_eq_true c10
         clear c10
         replace H := Option.bind_eq_some_iff.mp H
         obtain ⟨t245, A110, H⟩ := H
         replace H : (if (rd l0 x17_2) > t245 then (some false) else (impl_IsInside.l0 k2 l1 l0 (l0.length : Int) (wrap64 (x17_2 + 1)))) = some r := H
         have A11 := Aside0.mk A110
         clear A110
         by_cases c12 : (rd l0 x17_2) > t245
         ·rw [if_pos c12] at H
          have c12b0 : decide (t245 < (rd l0 x17_2)) = true := decide_eq_true c12
          clear c12
          obtain rfl := Option.some.inj H
          have p244 : 0 ≤ (x17_2 : Int) := of_decide_eq_true asm
          have q244 : x17_2 < (l0.length : Int) := of_decide_eq_true asm
          obtain ⟨ad244, e244, hx244_0⟩ := Kd.at_int HR0.out x17_2 p244 q244
          cases e244
          replace p244 := eq_true p244
          replace q244 := eq_true q244
          go_wp2_with (first | ((with_reducible refine gate_callee (f := 43) rfl ?_); refine goesL_ (some 25) rfl rfl Tryz.func43 (by kernel_rfl) rfl #[.slice A1 l1.length c1, .int .i64 x17_2] rfl lm ?_; (with_reducible refine (impl_at.calls _ _ l1 x17_2 t245 _ (cc HR1.out) HC1.out A11.out).mono ?_); rintro e w' ⟨rfl, ⟨nd, rfl⟩⟩; refine ⟨_, rfl, ?_⟩))
          go_ret
          exact ⟨by first | rfl | (simp; done) | (simp [*]; done), by repeat (first | exact Drawn0.refl _ | apply Drawn0.step)⟩
         ·rw [if_neg c12] at H
          have c12b0 : decide (t245 < (rd l0 x17_2)) = false := decide_eq_false c12
          clear c12
          have H' := Aside0.mk H
          clear H
          have p244 : 0 ≤ (x17_2 : Int) := of_decide_eq_true asm
          have q244 : x17_2 < (l0.length : Int) := of_decide_eq_true asm
          obtain ⟨ad244, e244, hx244_0⟩ := Kd.at_int HR0.out x17_2 p244 q244
          cases e244
          replace p244 := eq_true p244
          replace q244 := eq_true q244
          go_wp2_with (first | ((with_reducible refine gate_callee (f := 43) rfl ?_); refine goesL_ (some 25) rfl rfl Tryz.func43 (by kernel_rfl) rfl #[.slice A1 l1.length c1, .int .i64 x17_2] rfl lm ?_; (with_reducible refine (impl_at.calls _ _ l1 x17_2 t245 _ (cc HR1.out) HC1.out A11.out).mono ?_); rintro e w' ⟨rfl, ⟨nd, rfl⟩⟩; refine ⟨_, rfl, ?_⟩))
          go_roundg k2
          case measure => have := HJ2.out; have := HK2.out; omega
          case rel => exact ⟨(wrap64 (x17_2 + 1)), (by first | rfl | (simp; done) | (simp [*]; done)), H', ⟨by have := HJ2.out; have := HK2.out; omega⟩, by repeat (first | exact Drawn0.refl _ | apply Drawn0.step)⟩
        ·rw [if_neg c10] at H
         exact absurd H (by simp)
       ·rw [if_neg c9] at H
        exact absurd H (by simp)
      ·rw [if_neg c8] at H
       have c8b0 : decide (x17_2 < (l0.length : Int)) = false := decide_eq_false c8
       clear c8
       obtain rfl := Option.some.inj H
       go_wp2
       go_ret
       exact ⟨by first | rfl | (simp; done) | (simp [*]; done), by repeat (first | exact Drawn0.refl _ | apply Drawn0.step)⟩

end Go.Proofs.YtkbomfpebhjaoaaGreatDoor.QFnShapes
