/- A text of this session's own program (wip/myprint.py): functions that the law FnShapes reaches, as plain Lean functions, each with the proof that the call does just that. No condition beyond those that each statement bears. -/
import Derived.Test.YtkbomfpebhjaoaaGreatDoorQFnShapesx0
import Derived.Test.YtkbomfpebhjaoaaGreatDoorQFnShapesx1
import Derived.Test.YtkbomfpebhjaoaaGreatDoorQFnShapesx2
namespace Go.Proofs.YtkbomfpebhjaoaaGreatDoor.QFnShapes
open Go.Proofs.YtkbomfpebhjaoaaGreatDoor.Short Go.RowKit Go.Proofs.YtkbomfpebhjaoaaGreatDoorW.PrintWords Go.Proofs.YtkbomfpebhjaoaaGreatDoorW.PrintLast Go.Proofs.YtkbomfpebhjaoaaGreatDoorW.PrintMore
attribute [local go_sem] max2_int min2_int max_two min_two max_three min_three max_four min_four   -- for this text's walks alone
set_option linter.unusedVariables false
set_option linter.unusedSimpArgs false

/-! ### spec_DrawEqualShape: function 10 -/
def spec_DrawEqualShape.f (k : Nat) (l0 : List Int) : Option (List Int × List Int × List Int × List Int) := (spec_l1New.f k l0).bind fun bt343 => ((spec_l4Bent.f k bt343.1 bt343.2.1 bt343.2.2 7).bind fun bt347 => ((spec_l1Once.f bt343.1 bt347.2.2.1 bt347.2.2.2 2).bind fun bt356 => (if bt356.1 = true then ((some (([] : List Int) : List Int)).bind fun y359 => (if y359.length + bt347.1.length < 17592186044416 then ((some (([] : List Int) : List Int)).bind fun y365 => (if y365.length + bt347.2.1.length < 17592186044416 then (some (bt347.1, bt347.2.1, (y359 ++ bt347.1), (y365 ++ bt347.2.1))) else (none))) else (none))) else ((spec_l4Bent.f k bt343.1 bt356.2.1 bt356.2.2 7).bind fun bt371 => (some (bt347.1, bt347.2.1, bt371.1, bt371.2.1))))))
theorem spec_DrawEqualShape.mono : ∀ a0 k, LeO (spec_DrawEqualShape.f k a0) (spec_DrawEqualShape.f (k + 1) a0) := by
 intro a0 k
 unfold spec_DrawEqualShape.f
 repeat' first
   | (with_reducible exact spec_l1New.mono _ _)
   | (with_reducible exact spec_l4Bent.mono _ _ _ _ _)
   | (with_reducible exact LeO.refl _)
   | (with_reducible exact LeO.none _)
   | (with_reducible refine LeO.ite ?_ ?_)
   | (with_reducible refine LeO.bind ?_ (fun _ => ?_))
   | exact spec_l1New.mono _ _
   | exact spec_l4Bent.mono _ _ _ _ _
   | exact LeO.none _
   | refine LeO.ite ?_ ?_
   | refine LeO.bind ?_ (fun _ => ?_)
def spec_DrawEqualShape.T4 : Bool × List (List Nat × List Nat) := (true, [([], []), ([], []), ([], []), ([2], [2]), ([1, 3], [1, 3]), ([], []), ([], []), ([6], [6]), ([5, 7, 4], [5, 7]), ([4, 8], [4, 8]), ([0, 8, 0], [0]), ([9, 10, 0, 1, 2, 3, 4, 5, 6, 7, 8, 9, 10], [9])])
def spec_DrawEqualShape.B4 : List Nat := [0, 0, 0, 4, 14, 0, 0, 64, 254, 510, 511, 2047]
theorem spec_DrawEqualShape.tab4 : rtab .any (opsOf Tryz.f10 4) = spec_DrawEqualShape.T4 := by kernel_rfl
theorem spec_DrawEqualShape.bits4 : waitsOk spec_DrawEqualShape.T4.2 spec_DrawEqualShape.B4 = true := by kernel_rfl
set_option maxHeartbeats 8000000 in
set_option maxRecDepth 100000 in
theorem spec_DrawEqualShape.calls (k : Nat) (A0 : Option Addr) (c0 : Nat) (l0 : List Int) (r1 : List Int) (r2 : List Int) (r3 : List Int) (r4 : List Int) (w : World) (hr0 : Kd.C (Kd.int .u8) w A0 l0.length l0) (hc0 : l0.length ≤ c0) (h : spec_DrawEqualShape.f k l0 = some (r1, r2, r3, r4)) :
  Calls Tryz.prog 10 #[.slice A0 l0.length c0] w fun e w' => ∃ v0_ v1_ v2_ v3_ : Value, e = .returned (.tuple #[.agg #[v0_, v1_], .agg #[v2_, v3_]]) ∧ Kd.R (Kd.int .i64) 3 w' w.heap.size (fun k_ => some k_ ≠ (v1_ : Value).ownBlock ∧ some k_ ≠ (v2_ : Value).ownBlock ∧ some k_ ≠ (v3_ : Value).ownBlock) v0_ r1 ∧ Kd.R (Kd.int .i64) 3 w' w.heap.size (fun k_ => some k_ ≠ (v0_ : Value).ownBlock ∧ some k_ ≠ (v2_ : Value).ownBlock ∧ some k_ ≠ (v3_ : Value).ownBlock) v1_ r2 ∧ Kd.R (Kd.int .i64) 3 w' w.heap.size (fun k_ => some k_ ≠ (v0_ : Value).ownBlock ∧ some k_ ≠ (v1_ : Value).ownBlock ∧ some k_ ≠ (v3_ : Value).ownBlock) v2_ r3 ∧ Kd.R (Kd.int .i64) 3 w' w.heap.size (fun k_ => some k_ ≠ (v0_ : Value).ownBlock ∧ some k_ ≠ (v1_ : Value).ownBlock ∧ some k_ ≠ (v2_ : Value).ownBlock) v3_ r4 ∧ Below w.heap.size w w' := by
 have hu26 := Tryz.underlying26
 have HR0 := Aside0.mk hr0
 have HC0 := Aside0.mk hc0
 clear hr0 hc0
 have HB := Aside0.mk (Below.refl w.heap.size w)
 have H : ((spec_l1New.f k l0).bind fun bt343 => ((spec_l4Bent.f k bt343.1 bt343.2.1 bt343.2.2 7).bind fun bt347 => ((spec_l1Once.f bt343.1 bt347.2.2.1 bt347.2.2.2 2).bind fun bt356 => (if bt356.1 = true then ((some (([] : List Int) : List Int)).bind fun y359 => (if y359.length + bt347.1.length < 17592186044416 then ((some (([] : List Int) : List Int)).bind fun y365 => (if y365.length + bt347.2.1.length < 17592186044416 then (some (bt347.1, bt347.2.1, (y359 ++ bt347.1), (y365 ++ bt347.2.1))) else (none))) else (none))) else ((spec_l4Bent.f k bt343.1 bt356.2.1 bt356.2.2 7).bind fun bt371 => (some (bt347.1, bt347.2.1, bt371.1, bt371.2.1))))))) = some (r1, r2, r3, r4) := h
 clear h
 replace H := Option.bind_eq_some_iff.mp H
 obtain ⟨⟨t343, t344, t345⟩, A20, H⟩ := H
 replace H : ((spec_l4Bent.f k t343 t344 t345 7).bind fun bt347 => ((spec_l1Once.f t343 bt347.2.2.1 bt347.2.2.2 2).bind fun bt356 => (if bt356.1 = true then ((some (([] : List Int) : List Int)).bind fun y359 => (if y359.length + bt347.1.length < 17592186044416 then ((some (([] : List Int) : List Int)).bind fun y365 => (if y365.length + bt347.2.1.length < 17592186044416 then (some (bt347.1, bt347.2.1, (y359 ++ bt347.1), (y365 ++ bt347.2.1))) else (none))) else (none))) else ((spec_l4Bent.f k t343 bt356.2.1 bt356.2.2 7).bind fun bt371 => (some (bt347.1, bt347.2.1, bt371.1, bt371.2.1)))))) = some (r1, r2, r3, r4) := H
 have A2 := Aside0.mk A20
 clear A20
 replace H := Option.bind_eq_some_iff.mp H
 obtain ⟨⟨t347, t350, t353, t354⟩, A30, H⟩ := H
 replace H : ((spec_l1Once.f t343 t353 t354 2).bind fun bt356 => (if bt356.1 = true then ((some (([] : List Int) : List Int)).bind fun y359 => (if y359.length + t347.length < 17592186044416 then ((some (([] : List Int) : List Int)).bind fun y365 => (if y365.length + t350.length < 17592186044416 then (some (t347, t350, (y359 ++ t347), (y365 ++ t350))) else (none))) else (none))) else ((spec_l4Bent.f k t343 bt356.2.1 bt356.2.2 7).bind fun bt371 => (some (t347, t350, bt371.1, bt371.2.1))))) = some (r1, r2, r3, r4) := H
 have A3 := Aside0.mk A30
 clear A30
 replace H := Option.bind_eq_some_iff.mp H
 obtain ⟨⟨t356, t357, t358⟩, A40, H⟩ := H
 replace H : (if t356 = true then ((some (([] : List Int) : List Int)).bind fun y359 => (if y359.length + t347.length < 17592186044416 then ((some (([] : List Int) : List Int)).bind fun y365 => (if y365.length + t350.length < 17592186044416 then (some (t347, t350, (y359 ++ t347), (y365 ++ t350))) else (none))) else (none))) else ((spec_l4Bent.f k t343 t357 t358 7).bind fun bt371 => (some (t347, t350, bt371.1, bt371.2.1)))) = some (r1, r2, r3, r4) := H
 have A4 := Aside0.mk A40
 clear A40
 by_cases c5 : t356 = true
 ·subst c5
  have H1 : ((some (([] : List Int) : List Int)).bind fun y359 => (if y359.length + t347.length < 17592186044416 then ((some (([] : List Int) : List Int)).bind fun y365 => (if y365.length + t350.length < 17592186044416 then (some (t347, t350, (y359 ++ t347), (y365 ++ t350))) else (none))) else (none))) = some (r1, r2, r3, r4) := by rw [if_pos rfl] at H; exact H
  clear H
  have H := H1
  clear H1
  obtain ⟨y359, hy359⟩ : ∃ y_ : List Int, y_ = (([] : List Int)) := ⟨_, rfl⟩
  replace H : (if y359.length + t347.length < 17592186044416 then ((some (([] : List Int) : List Int)).bind fun y365 => (if y365.length + t350.length < 17592186044416 then (some (t347, t350, (y359 ++ t347), (y365 ++ t350))) else (none))) else (none)) = some (r1, r2, r3, r4) := by first | (rw [hy359]; with_reducible exact H) | (have H2_ := (Option.bind_some _ _).symm.trans H; rw [hy359]; with_reducible exact H2_) | (have H2_ := (Option.bind_some _ _).symm.trans H; with_reducible exact H2_) | with_reducible exact H | (rw [hy359]; exact H) | exact H
  have Ny359 := Aside0.mk hy359
  clear hy359
  by_cases c6 : y359.length + t347.length < 17592186044416
  ·rw [if_pos c6] at H
   have LMc6 := Aside0.mk c6
   clear c6
   obtain ⟨y362, hy362⟩ : ∃ y_ : List Int, y_ = (y359 ++ t347) := ⟨_, rfl⟩
   replace H : ((some (([] : List Int) : List Int)).bind fun y365 => (if y365.length + t350.length < 17592186044416 then (some (t347, t350, y362, (y365 ++ t350))) else (none))) = some (r1, r2, r3, r4) := by first | (rw [hy362]; with_reducible exact H) | (have H2_ := (Option.bind_some _ _).symm.trans H; rw [hy362]; with_reducible exact H2_) | (have H2_ := (Option.bind_some _ _).symm.trans H; with_reducible exact H2_) | with_reducible exact H | (rw [hy362]; exact H) | exact H
   have Ny362 := Aside0.mk hy362
   clear hy362
   obtain ⟨y365, hy365⟩ : ∃ y_ : List Int, y_ = (([] : List Int)) := ⟨_, rfl⟩
   replace H : (if y365.length + t350.length < 17592186044416 then (some (t347, t350, y362, (y365 ++ t350))) else (none)) = some (r1, r2, r3, r4) := by first | (rw [hy365]; with_reducible exact H) | (have H2_ := (Option.bind_some _ _).symm.trans H; rw [hy365]; with_reducible exact H2_) | (have H2_ := (Option.bind_some _ _).symm.trans H; with_reducible exact H2_) | with_reducible exact H | (rw [hy365]; exact H) | exact H
   have Ny365 := Aside0.mk hy365
   clear hy365
   by_cases c7 : y365.length + t350.length < 17592186044416
   ·rw [if_pos c7] at H
    have LMc7 := Aside0.mk c7
    clear c7
    obtain ⟨y368, hy368⟩ : ∃ y_ : List Int, y_ = (y365 ++ t350) := ⟨_, rfl⟩
    replace H : (some (t347, t350, y362, y368)) = some (r1, r2, r3, r4) := by first | (rw [hy368]; with_reducible exact H) | (have H2_ := (Option.bind_some _ _).symm.trans H; rw [hy368]; with_reducible exact H2_) | (have H2_ := (Option.bind_some _ _).symm.trans H; with_reducible exact H2_) | with_reducible exact H | (rw [hy368]; exact H) | exact H
    have Ny368 := Aside0.mk hy368
    clear hy368
    simp only [Option.some.injEq, Prod.mk.injEq] at H
    obtain ⟨rfl, rfl, rfl, rfl⟩ := H
    go_enter Tryz.func10, Tryz.ntmps10
    try go_wp2_with (first | (refine boxE 2 #[.slice none 0 0, .slice none 0 0] 26 rfl ?_; intro gb341 hg w8 hbox hb; have BK341 := Aside0.mk (hbox); have GW341 := Aside0.mk ((by rw [hg]; exact (below_size bnow) : w.heap.size ≤ gb341)); have GE341 := Aside0.mk ((by rw [hg]; exact (below_size bnow) : w.heap.size ≤ gb341)); replace HB := Aside0.mk (below_step bnow hb); clear hb hbox hg) | (refine boxE 3 #[.slice none 0 0, .slice none 0 0] 26 rfl ?_; intro gb342 hg w9 hbox hb; have BK342 := Aside0.mk (hbox); have GW342 := Aside0.mk ((by rw [hg]; exact (below_size (bn HB.out)) : w.heap.size ≤ gb342)); have GE342 := Aside0.mk ((by rw [hg]; exact (below_size (bn HB.out)) : w.heap.size ≤ gb342)); replace HB := Aside0.mk (below_step (bn HB.out) hb); have NB341_342 := Aside0.mk ((by rw [hg]; exact Nat.ne_of_lt (blk_lt (g := gb341) (o := .cells #[.slice none 0 0, .slice none 0 0] 26 (0, 0)) (bk BK341.out)) : gb341 ≠ gb342)); have NB342_341 := Aside0.mk ((by rw [hg]; exact Nat.ne_of_gt (blk_lt (g := gb341) (o := .cells #[.slice none 0 0, .slice none 0 0] 26 (0, 0)) (bk BK341.out)) : gb342 ≠ gb341)); replace BK341 := Aside0.mk (blk_below (bk BK341.out) hb); clear hb hbox hg) | ((with_reducible refine gate_callee (f := 31) rfl ?_); refine goesL_ (some 7) rfl rfl Tryz.func31 (by kernel_rfl) rfl #[.slice A0 l0.length c0] rfl lm ?_; (with_reducible refine (spec_l1New.calls k _ _ l0 t343 t344 t345 w _ (bn HB.out) HR0.out HC0.out A2.out).mono ?_); rintro e w10 ⟨g346, rfl, hi, hb, hb2⟩; refine ⟨_, rfl, ?_⟩; replace HB := Aside0.mk (hb); have HI346 := Aside0.mk (hi); have NB346_341 := Aside0.mk (IsS60.ne_blk hi (blk_below (bk BK341.out) hb2) (by decide)); have NB341_346 := Aside0.mk (Ne.symm (IsS60.ne_blk hi (blk_below (bk BK341.out) hb2) (by decide))); replace BK341 := Aside0.mk (blk_below (bk BK341.out) hb2); have NB346_342 := Aside0.mk (IsS60.ne_blk hi (blk_below (bk BK342.out) hb2) (by decide)); have NB342_346 := Aside0.mk (Ne.symm (IsS60.ne_blk hi (blk_below (bk BK342.out) hb2) (by decide))); replace BK342 := Aside0.mk (blk_below (bk BK342.out) hb2); (try clear hb); (try clear hb2); (try clear hk); (try clear hi)) | ((with_reducible refine gate_callee (f := 30) rfl ?_); refine goesL_ (some 9) rfl rfl Tryz.func30 (by kernel_rfl) rfl #[.pointer (some ⟨g346, 0, none⟩), .int .i64 7] rfl lm ?_; (with_reducible refine (spec_l4Bent.calls k g346 t343 t344 t345 7 t347 t350 t353 t354 w _ (inow HI346.out) (bi HB.out) A3.out).mono ?_); rintro e w11 ⟨v348, v351, rfl, ho0, ho1, hi, hb, hk⟩; refine ⟨_, rfl, ?_⟩; replace BK341 := Aside0.mk (KeepBut.blk hk (g' := gb341) (o := .cells #[.slice none 0 0, .slice none 0 0] 26 (0, 0)) (bk BK341.out) NB341_346.out (by simp)); replace BK342 := Aside0.mk (KeepBut.blk hk (g' := gb342) (o := .cells #[.slice none 0 0, .slice none 0 0] 26 (0, 0)) (bk BK342.out) NB342_346.out (by simp)); have HO349 := Aside0.mk (Kd.R_lower ho0 (below_size (bi HB.out))); have HO352 := Aside0.mk (Kd.R_lower ho1 (below_size (bi HB.out))); replace HB := Aside0.mk (hb); replace HI346 := Aside0.mk (hi); (try clear hb); (try clear hb2); (try clear hk); (try clear hi); (try clear ho0); (try clear ho1)) | (refine boxE 5 #[.slice none 0 0, .slice none 0 0] 26 rfl ?_; intro gb355 hg w12 hbox hb; replace HO349 := Aside0.mk (Kd.R_below (rk HO349.out) hb); replace HO352 := Aside0.mk (Kd.R_below (rk HO352.out) hb); have BK355 := Aside0.mk (hbox); have GW355 := Aside0.mk ((by rw [hg]; exact (below_size (bi HB.out)) : w.heap.size ≤ gb355)); have GE355 := Aside0.mk ((by rw [hg]; exact (below_size (bi HB.out)) : w.heap.size ≤ gb355)); replace HB := Aside0.mk (below_step (bi HB.out) hb); have NB341_355 := Aside0.mk ((by rw [hg]; exact Nat.ne_of_lt (blk_lt (g := gb341) (o := .cells #[.slice none 0 0, .slice none 0 0] 26 (0, 0)) (bk BK341.out)) : gb341 ≠ gb355)); have NB355_341 := Aside0.mk ((by rw [hg]; exact Nat.ne_of_gt (blk_lt (g := gb341) (o := .cells #[.slice none 0 0, .slice none 0 0] 26 (0, 0)) (bk BK341.out)) : gb355 ≠ gb341)); replace BK341 := Aside0.mk (blk_below (bk BK341.out) hb); have NB342_355 := Aside0.mk ((by rw [hg]; exact Nat.ne_of_lt (blk_lt (g := gb342) (o := .cells #[.slice none 0 0, .slice none 0 0] 26 (0, 0)) (bk BK342.out)) : gb342 ≠ gb355)); have NB355_342 := Aside0.mk ((by rw [hg]; exact Nat.ne_of_gt (blk_lt (g := gb342) (o := .cells #[.slice none 0 0, .slice none 0 0] 26 (0, 0)) (bk BK342.out)) : gb355 ≠ gb342)); replace BK342 := Aside0.mk (blk_below (bk BK342.out) hb); have NB346_355 := Aside0.mk ((by rw [hg]; exact Nat.ne_of_lt (IsS60.lt (show IsS60 w _ g346 t343 t353 t354 from inow HI346.out)) : g346 ≠ gb355)); have NB355_346 := Aside0.mk ((by rw [hg]; exact Nat.ne_of_gt (IsS60.lt (show IsS60 w _ g346 t343 t353 t354 from inow HI346.out)) : gb355 ≠ g346)); replace HI346 := Aside0.mk (IsS60.below (inow HI346.out) hb); clear hb hbox hg; obtain ⟨Ao13, co13, eo13⟩ := Kd.R_slice HO349.out; subst eo13; have hnb14 := NB355_341.out; have hnc14 := NB341_355.out; have hnb15 := NB355_342.out; have hnc15 := NB342_355.out; have hnb16 := NB355_346.out; have hnc16 := NB346_355.out; have hcz17_0 : w12.cell? ⟨gb355, 0, none⟩ = some (.slice none 0 0) := (blk_cell BK355.out 0).trans rfl; have hcz17_1 : w12.cell? ⟨gb355, 1, none⟩ = some (.slice none 0 0) := (blk_cell BK355.out 1).trans rfl; have hfz17_0 := blk_frozen BK355.out 0; have hfz17_1 := blk_frozen BK355.out 1; obtain ⟨Ao18, co18, eo18⟩ := Kd.R_slice HO352.out; subst eo18) | ((with_reducible refine gate_callee (f := 35) rfl ?_); refine goesL_ (some 11) rfl rfl Tryz.func35 (by kernel_rfl) rfl #[.pointer (some ⟨g346, 0, none⟩), .int .i64 2] rfl lm ?_; (with_reducible refine (spec_l1Once.calls g346 t343 t353 t354 2 true t357 t358 w _ (inow HI346.out) (bi HB.out) A4.out).mono ?_); rintro e w19 ⟨rfl, hi, hb, hk⟩; refine ⟨_, rfl, ?_⟩; replace BK341 := Aside0.mk (KeepBut.blk hk (g' := gb341) (o := .cells #[.slice none 0 0, .slice none 0 0] 26 (0, 0)) (by (with_reducible repeat (first | refine blk_drewN ?_ _ | refine blk_drew ?_ | refine blk_alloc ?_ _)); refine blk_far ?_ NB341_355.out _; (with_reducible repeat (first | refine blk_drewN ?_ _ | refine blk_drew ?_ | refine blk_alloc ?_ _)); refine blk_far ?_ NB341_355.out _; (with_reducible repeat (first | refine blk_drewN ?_ _ | refine blk_drew ?_ | refine blk_alloc ?_ _)); exact BK341.out) NB341_346.out (by simp)); replace BK342 := Aside0.mk (KeepBut.blk hk (g' := gb342) (o := .cells #[.slice none 0 0, .slice none 0 0] 26 (0, 0)) (by (with_reducible repeat (first | refine blk_drewN ?_ _ | refine blk_drew ?_ | refine blk_alloc ?_ _)); refine blk_far ?_ NB342_355.out _; (with_reducible repeat (first | refine blk_drewN ?_ _ | refine blk_drew ?_ | refine blk_alloc ?_ _)); refine blk_far ?_ NB342_355.out _; (with_reducible repeat (first | refine blk_drewN ?_ _ | refine blk_drew ?_ | refine blk_alloc ?_ _)); exact BK342.out) NB342_346.out (by simp)); replace HO349 := Aside0.mk (Kd.R_mono (Kd.R_keep (IsS60.apart (show IsS60 w _ g346 t343 t353 t354 from inow HI346.out) (by (with_reducible repeat (first | apply Kd.R_alloc | apply Kd.R_drewN | apply Kd.R_drew)); exact (Kd.R_mono (Kd.R_far (p := ⟨gb355, 1, none⟩) (Kd.R_far (p := ⟨gb355, 0, none⟩) (Kd.R_types HO349.out BK355.out (by decide)) (fun _ hk => hk.2) (.slice Ao13 t347.length co13)) (fun _ hk => hk.2) (.slice Ao18 t350.length co18)) (fun _ h_ => h_.1))) (by decide)) hk (fun _ h => h.2)) (fun _ h => h.1)); replace HO352 := Aside0.mk (Kd.R_mono (Kd.R_keep (IsS60.apart (show IsS60 w _ g346 t343 t353 t354 from inow HI346.out) (by (with_reducible repeat (first | apply Kd.R_alloc | apply Kd.R_drewN | apply Kd.R_drew)); exact (Kd.R_mono (Kd.R_far (p := ⟨gb355, 1, none⟩) (Kd.R_far (p := ⟨gb355, 0, none⟩) (Kd.R_types HO352.out BK355.out (by decide)) (fun _ hk => hk.2) (.slice Ao13 t347.length co13)) (fun _ hk => hk.2) (.slice Ao18 t350.length co18)) (fun _ h_ => h_.1))) (by decide)) hk (fun _ h => h.2)) (fun _ h => h.1)); replace BK355 := Aside0.mk (KeepBut.blk hk (g' := gb355) (o := .cells #[.slice Ao13 t347.length co13, .slice Ao18 t350.length co18] 26 (0, 0)) (by (with_reducible repeat (first | refine blk_drewN ?_ _ | refine blk_drew ?_ | refine blk_alloc ?_ _)); refine blk_put (cs := #[.slice Ao13 t347.length co13, .slice none 0 0]) ?_ 1 _ rfl; (with_reducible repeat (first | refine blk_drewN ?_ _ | refine blk_drew ?_ | refine blk_alloc ?_ _)); refine blk_put (cs := #[.slice none 0 0, .slice none 0 0]) ?_ 0 _ rfl; (with_reducible repeat (first | refine blk_drewN ?_ _ | refine blk_drew ?_ | refine blk_alloc ?_ _)); exact BK355.out) NB355_346.out (by simp)); replace HB := Aside0.mk (hb); replace HI346 := Aside0.mk (hi); (try clear hb); (try clear hb2); (try clear hk); (try clear hi)))
    have n0_ := Aside0.mk (Kd.R_drew HO349.out)
    have n1_ := Aside0.mk (Kd.R_drew HO352.out)
    have n2_ := Aside0.mk (blk_drew BK341.out)
    have n3_ := Aside0.mk (blk_drew BK342.out)
    have n4_ := Aside0.mk (blk_drew BK355.out)
    have n5_ := Aside0.mk (IsS60.drew HI346.out)
    have n6_ := Aside0.mk (below_drew1 HB.out)
    clear HO349
    clear HO352
    clear BK341
    clear BK342
    clear BK355
    clear HI346
    clear HB
    have HO349 := n0_
    have HO352 := n1_
    have BK341 := n2_
    have BK342 := n3_
    have BK355 := n4_
    have HI346 := n5_
    have HB := n6_
    clear n0_ n1_ n2_ n3_ n4_ n5_ n6_
    refine start_ (n := 12) (S := fun w' => w'.cell? ⟨gb355, 0, none⟩ = some (.slice Ao13 t347.length co13) ∧ w'.cell? ⟨gb355, 1, none⟩ = some (.slice Ao18 t350.length co18)) (ds := []) (tf 12 0) (by kernel_rfl) rfl rfl ⟨(blk_cell BK355.out 0).trans rfl, (blk_cell BK355.out 1).trans rfl⟩ (fun hHeld => ?_); refine with_tabW spec_DrawEqualShape.tab4 spec_DrawEqualShape.bits4 (fun HT_ HW_ => ?_)
    generalize w19.drew = w20 at HO349 HO352 BK341 BK342 BK355 HI346 HB hHeld ⊢
    refine pure1 2 14 #[false, false, true, false, false, false, false, false, false, false, false, false] (ay HT_.out) ?_
    refine pure1 6 18 #[false, false, true, false, false, false, true, false, false, false, false, false] (ay HT_.out) ?_
    refine take_ (i := 0) (N := some 12) (v := ?_) (a' := ?_) #[true, false, true, false, false, false, true, false, false, false, false, false] rfl rfl (take_ofW HT_.out HW_.out (by kernel_rfl)) (fun _ _ _ h => h) (Or.inl ⟨by rfl, ?_⟩) hHeld ?_ ?_
    rotate_left
    ·rintro w' ⟨s0, s1⟩
     go_simp
     with_reducible rfl
    rotate_left
    ·simp only [Act.put, List.setIfInBounds_toArray, List.set_cons_zero, List.set_cons_succ, i64_w, i32_w]
     rfl
    refine take_ (i := 3) (N := some 15) (v := ?_) (a' := ?_) #[true, false, true, true, false, false, true, false, false, false, false, false] rfl rfl (take_ofW HT_.out HW_.out (by kernel_rfl)) (fun _ _ _ h => h) (Or.inl ⟨by rfl, ?_⟩) hHeld ?_ ?_
    rotate_left
    ·rintro w' ⟨s0, s1⟩
     go_simp
     with_reducible rfl
    rotate_left
    ·simp only [Act.put, List.setIfInBounds_toArray, List.set_cons_zero, List.set_cons_succ, i64_w, i32_w]
     rfl
    refine take_ (i := 7) (N := some 19) (v := ?_) (a' := ?_) #[true, false, true, true, false, false, true, true, false, false, false, false] rfl rfl (take_ofW HT_.out HW_.out (by kernel_rfl)) (fun _ _ _ h => h) (Or.inl ⟨by rfl, ?_⟩) hHeld ?_ ?_
    rotate_left
    ·rintro w' ⟨s0, s1⟩
     go_simp
     with_reducible rfl
    rotate_left
    ·simp only [Act.put, List.setIfInBounds_toArray, List.set_cons_zero, List.set_cons_succ, i64_w, i32_w]
     rfl
    refine join_ (σ := Value × Value × Value) 4 (tf 12 8) (fun s_ => [(13, s_.1), (16, s_.2.1), (17, s_.2.2)]) (fun s_ w' => (w'.cell? ⟨gb355, 0, none⟩ = some (.slice Ao13 t347.length co13) ∧ w'.cell? ⟨gb355, 1, none⟩ = some (.slice Ao18 t350.length co18)) ∧ (Kd.R (Kd.int .i64) 3 w' w.heap.size (fun k_ => some k_ ≠ (.slice Ao18 t350.length co18 : Value).ownBlock ∧ some k_ ≠ (s_.2.1 : Value).ownBlock ∧ some k_ ≠ (s_.2.2 : Value).ownBlock) (.slice Ao13 t347.length co13) t347) ∧ (Kd.R (Kd.int .i64) 3 w' w.heap.size (fun k_ => some k_ ≠ (.slice Ao13 t347.length co13 : Value).ownBlock ∧ some k_ ≠ (s_.2.1 : Value).ownBlock ∧ some k_ ≠ (s_.2.2 : Value).ownBlock) (.slice Ao18 t350.length co18) t350) ∧ (Kd.R (Kd.int .i64) 3 w' w.heap.size (fun k_ => some k_ ≠ (.slice Ao13 t347.length co13 : Value).ownBlock ∧ some k_ ≠ (.slice Ao18 t350.length co18 : Value).ownBlock ∧ some k_ ≠ (s_.2.2 : Value).ownBlock) s_.2.1 y362) ∧ (Kd.R (Kd.int .i64) 3 w' w.heap.size (fun k_ => some k_ ≠ (.slice Ao13 t347.length co13 : Value).ownBlock ∧ some k_ ≠ (.slice Ao18 t350.length co18 : Value).ownBlock ∧ some k_ ≠ (s_.2.1 : Value).ownBlock) s_.2.2 y365) ∧ (w'.heap[gb341]? = some (.cells #[.slice none 0 0, .slice none 0 0] 26 (0, 0))) ∧ (w'.heap[gb342]? = some (.cells #[.slice none 0 0, .slice none 0 0] 26 (0, 0))) ∧ (w'.heap[gb355]? = some (.cells #[.slice Ao13 t347.length co13, .slice Ao18 t350.length co18] 26 (0, 0))) ∧ (IsS60 w w' g346 t343 t357 t358) ∧ (Below w.heap.size w w')) ?_ ?_
    rotate_left
    ·intro hCont
     refine two_ (i := 1) (j := 5) (Ni := some 13) (Nj := some 17) #[true, true, true, true, false, false, true, true, false, false, false, false] #[true, false, true, true, false, true, true, true, false, false, false, false] rfl rfl rfl rfl (two_of HT_.out (by kernel_rfl)) (by decide) (by decide) (fun K hK => ?_) (fun K hK => ?_)
     ·skip
      refine Kd.R_lit_step (Kd.int .i64) _ 3 ?hg (N := 13) ?hd (xs := ([] : List Int)) (inner := []) (ok := fun _ => True) (okp := fun _ => True) ?hr ?hp (fun _ hk => hk) trivial (Below.refl _ _) (Nat.le_refl _) (by simp) ?_; (case hd => rfl); (case hg => rfl); (case hr => first | (go_simp; done) | (go_simp; rfl)); (case hp => exact (Reps.none _ _))
      intro v360 w21 ho22 hb hg_ hnew_
      clear hg_ hnew_
      (first | rw [← Ny359.out] at ho22 | (simp only [Int.reduceToNat] at ho22; rw [← Ny359.out] at ho22))
      have n0_ := Aside0.mk (Kd.R_elder' (rk HO349.out) (Kd.R_base ho22) hb)
      have n1_ := Aside0.mk (Kd.R_elder' (rk HO352.out) (Kd.R_base ho22) hb)
      have n2_ := Aside0.mk (Kd.R_lower (Kd.R_new' (Kd.R_new' ho22 (Kd.R_lt (rk HO349.out))) (Kd.R_lt (rk HO352.out))) (below_size (bi HB.out)))
      have n3_ := Aside0.mk (blk_below (bk BK341.out) hb)
      have n4_ := Aside0.mk (blk_below (bk BK342.out) hb)
      have n5_ := Aside0.mk (IsS60.below (inow HI346.out) hb)
      have n6_ := Aside0.mk (blk_below (bk BK355.out) hb)
      have n7_ := Aside0.mk (below_step (bi HB.out) hb)
      clear HO349
      clear HO352
      clear BK341
      clear BK342
      clear HI346
      clear BK355
      clear HB
      have HO349 := n0_
      have HO352 := n1_
      have HO361 := n2_
      have BK341 := n3_
      have BK342 := n4_
      have HI346 := n5_
      have BK355 := n6_
      have HB := n7_
      clear n0_ n1_ n2_ n3_ n4_ n5_ n6_ n7_
      clear hb ho22
      refine hK.out _ _ ⟨(blk_cell BK355.out 0).trans rfl, (blk_cell BK355.out 1).trans rfl⟩ (fun hHeld => ?_)
      clear hK K
      refine norm1 13 ?_
      refine two_ (i := 4) (j := 5) (Ni := some 16) (Nj := some 17) #[true, true, true, true, true, false, true, true, false, false, false, false] #[true, true, true, true, false, true, true, true, false, false, false, false] rfl rfl rfl rfl (two_of HT_.out (by kernel_rfl)) (by decide) (by decide) (fun K hK => ?_) (fun K hK => ?_)
      ·skip
       refine Kd.R_append_rows_step (Kd.int .i64) (w0 := w) w.heap.size (by rfl) (.tmp 13) (.tmp 15) 24 3 (.int .i64 0) 8 rfl Tryz.underlying24 info3 rfl (by decide) (by omega) v360 y359 t347 _ _ _ (fun k_ => some k_ ≠ (.slice Ao13 t347.length co13 : Value).ownBlock ∧ some k_ ≠ (.slice Ao18 t350.length co18 : Value).ownBlock) (fun _ => False) rfl rfl ?aO ?aR (fun _ _ h => h) (fun _ h => h.elim) ?aF ?aB ?aS ?aL ?_
       (case aR => repeat (first | exact (Kd.R_reads' HO349.out).2.2 | (with_reducible refine Kd.C_alloc ?_ _) | (with_reducible refine Kd.C_drewN ?_ _) | (with_reducible refine Kd.C_drew ?_)))
       (case aB => exact (bi HB.out))
       (case aF => exact (fun k_ hk => ⟨Kd.fresh' (Kd.R_lt (rk HO349.out)) k_ hk, Kd.fresh' (Kd.R_lt (rk HO352.out)) k_ hk⟩))
       (case aO => exact (by (with_reducible repeat (first | apply Kd.R_alloc | apply Kd.R_drewN | apply Kd.R_drew)); exact Kd.R_mono HO361.out (fun _ hk => ⟨hk.1.2, hk.2⟩)))
       (case aS => exact (below_size (bi HB.out)))
       (case aL => have := LMc6.out; omega)
       intro v363 w23 ho hb hg hat
       rw [← Ny362.out] at ho
       have n0_ := Aside0.mk (blk_grown (g := gb341) (o := .cells #[.slice none 0 0, .slice none 0 0] 26 (0, 0)) (bk BK341.out) hg (Kd.R_ne HO361.out BK341.out (by decide)))
       have n1_ := Aside0.mk (blk_grown (g := gb342) (o := .cells #[.slice none 0 0, .slice none 0 0] 26 (0, 0)) (bk BK342.out) hg (Kd.R_ne HO361.out BK342.out (by decide)))
       have n2_ := Aside0.mk (IsS60.grown (inow HI346.out) hg (IsS60.own_ne HI346.out HO361.out (by decide)))
       have n3_ := Aside0.mk (Kd.R_after (ok := (fun k_ => some k_ ≠ (.slice Ao18 t350.length co18 : Value).ownBlock)) (rk HO349.out) hg hat)
       have n4_ := Aside0.mk (Kd.R_after (ok := (fun k_ => some k_ ≠ (.slice Ao13 t347.length co13 : Value).ownBlock)) (rk HO352.out) hg hat)
       have n5_ := Aside0.mk (blk_grown (g := gb355) (o := .cells #[.slice Ao13 t347.length co13, .slice Ao18 t350.length co18] 26 (0, 0)) (bk BK355.out) hg (Kd.R_ne HO361.out BK355.out (by decide)))
       have n6_ := Aside0.mk (hb)
       have n7_ := Aside0.mk (ho)
       clear BK341
       clear BK342
       clear HI346
       clear HO349
       clear HO352
       clear BK355
       clear HB
       clear HO361
       have BK341 := n0_
       have BK342 := n1_
       have HI346 := n2_
       have HO349 := n3_
       have HO352 := n4_
       have BK355 := n5_
       have HB := n6_
       have HO364 := n7_
       clear n0_ n1_ n2_ n3_ n4_ n5_ n6_ n7_
       clear ho hb hg hat
       refine hK.out _ _ ⟨(blk_cell BK355.out 0).trans rfl, (blk_cell BK355.out 1).trans rfl⟩ (fun hHeld => ?_)
       clear hK K
       refine norm1 16 ?_
       refine one_ (i := 5) (N := some 17) (tf 12 8) rfl rfl (one_of HT_.out (by kernel_rfl)) (by decide) (fun K hK => ?_)
       refine Kd.R_lit_step (Kd.int .i64) _ 3 ?hg (N := 17) ?hd (xs := ([] : List Int)) (inner := []) (ok := fun _ => True) (okp := fun _ => True) ?hr ?hp (fun _ hk => hk) trivial (Below.refl _ _) (Nat.le_refl _) (by simp) ?_; (case hd => rfl); (case hg => rfl); (case hr => first | (go_simp; done) | (go_simp; rfl)); (case hp => exact (Reps.none _ _))
       intro v366 w24 ho25 hb hg_ hnew_
       clear hg_ hnew_
       (first | rw [← Ny365.out] at ho25 | (simp only [Int.reduceToNat] at ho25; rw [← Ny365.out] at ho25))
       have n0_ := Aside0.mk (Kd.R_elder' (rk HO349.out) (Kd.R_base ho25) hb)
       have n1_ := Aside0.mk (Kd.R_elder' (rk HO352.out) (Kd.R_base ho25) hb)
       have n2_ := Aside0.mk (Kd.R_elder' (rk HO364.out) (Kd.R_base ho25) hb)
       have n3_ := Aside0.mk (Kd.R_lower (Kd.R_new' (Kd.R_new' (Kd.R_new' ho25 (Kd.R_lt (rk HO349.out))) (Kd.R_lt (rk HO352.out))) (Kd.R_lt (rk HO364.out))) (below_size (bi HB.out)))
       have n4_ := Aside0.mk (blk_below (bk BK341.out) hb)
       have n5_ := Aside0.mk (blk_below (bk BK342.out) hb)
       have n6_ := Aside0.mk (IsS60.below (inow HI346.out) hb)
       have n7_ := Aside0.mk (blk_below (bk BK355.out) hb)
       have n8_ := Aside0.mk (below_step (bi HB.out) hb)
       clear HO349
       clear HO352
       clear HO364
       clear BK341
       clear BK342
       clear HI346
       clear BK355
       clear HB
       have HO349 := n0_
       have HO352 := n1_
       have HO364 := n2_
       have HO367 := n3_
       have BK341 := n4_
       have BK342 := n5_
       have HI346 := n6_
       have BK355 := n7_
       have HB := n8_
       clear n0_ n1_ n2_ n3_ n4_ n5_ n6_ n7_ n8_
       clear hb ho25
       refine hK.out _ _ ⟨(blk_cell BK355.out 0).trans rfl, (blk_cell BK355.out 1).trans rfl⟩ (fun hHeld => ?_)
       clear hK K
       refine norm1 17 ?_
       exact norm_ (by simp only [putAll, Act.put, List.setIfInBounds_toArray, List.set_cons_zero, List.set_cons_succ]) (hCont (v360, v363, v366) _ ⟨hHeld, (by (with_reducible repeat (first | apply Kd.R_alloc | apply Kd.R_drewN | apply Kd.R_drew)); exact Kd.R_mono HO349.out (fun _ hk => ⟨hk.1.1, ⟨hk.1.2, hk.2⟩⟩)), (by (with_reducible repeat (first | apply Kd.R_alloc | apply Kd.R_drewN | apply Kd.R_drew)); exact Kd.R_mono HO352.out (fun _ hk => ⟨hk.1.1, ⟨hk.1.2, hk.2⟩⟩)), (by (with_reducible repeat (first | apply Kd.R_alloc | apply Kd.R_drewN | apply Kd.R_drew)); exact Kd.R_mono HO364.out (fun _ hk => ⟨hk.1.1, ⟨hk.1.2, hk.2⟩⟩)), (by (with_reducible repeat (first | apply Kd.R_alloc | apply Kd.R_drewN | apply Kd.R_drew)); exact Kd.R_mono HO367.out (fun _ hk => ⟨hk.1.1.2, ⟨hk.1.2, hk.2⟩⟩)), (bk BK341.out), (bk BK342.out), (bk BK355.out), (inow HI346.out), (bi HB.out)⟩)
      ·skip
       refine Kd.R_lit_step (Kd.int .i64) _ 3 ?hg (N := 17) ?hd (xs := ([] : List Int)) (inner := []) (ok := fun _ => True) (okp := fun _ => True) ?hr ?hp (fun _ hk => hk) trivial (Below.refl _ _) (Nat.le_refl _) (by simp) ?_; (case hd => rfl); (case hg => rfl); (case hr => first | (go_simp; done) | (go_simp; rfl)); (case hp => exact (Reps.none _ _))
       intro v366 w23 ho24 hb hg_ hnew_
       clear hg_ hnew_
       (first | rw [← Ny365.out] at ho24 | (simp only [Int.reduceToNat] at ho24; rw [← Ny365.out] at ho24))
       have n0_ := Aside0.mk (Kd.R_elder' (rk HO349.out) (Kd.R_base ho24) hb)
       have n1_ := Aside0.mk (Kd.R_elder' (rk HO352.out) (Kd.R_base ho24) hb)
       have n2_ := Aside0.mk (Kd.R_elder' (rk HO361.out) (Kd.R_base ho24) hb)
       have n3_ := Aside0.mk (Kd.R_lower (Kd.R_new' (Kd.R_new' (Kd.R_new' ho24 (Kd.R_lt (rk HO349.out))) (Kd.R_lt (rk HO352.out))) (Kd.R_lt (rk HO361.out))) (below_size (bi HB.out)))
       have n4_ := Aside0.mk (blk_below (bk BK341.out) hb)
       have n5_ := Aside0.mk (blk_below (bk BK342.out) hb)
       have n6_ := Aside0.mk (IsS60.below (inow HI346.out) hb)
       have n7_ := Aside0.mk (blk_below (bk BK355.out) hb)
       have n8_ := Aside0.mk (below_step (bi HB.out) hb)
       clear HO349
       clear HO352
       clear HO361
       clear BK341
       clear BK342
       clear HI346
       clear BK355
       clear HB
       have HO349 := n0_
       have HO352 := n1_
       have HO361 := n2_
       have HO367 := n3_
       have BK341 := n4_
       have BK342 := n5_
       have HI346 := n6_
       have BK355 := n7_
       have HB := n8_
       clear n0_ n1_ n2_ n3_ n4_ n5_ n6_ n7_ n8_
       clear hb ho24
       refine hK.out _ _ ⟨(blk_cell BK355.out 0).trans rfl, (blk_cell BK355.out 1).trans rfl⟩ (fun hHeld => ?_)
       clear hK K
       refine norm1 17 ?_
       refine one_ (i := 4) (N := some 16) (tf 12 8) rfl rfl (one_of HT_.out (by kernel_rfl)) (by decide) (fun K hK => ?_)
       refine Kd.R_append_rows_step (Kd.int .i64) (w0 := w) w.heap.size (by rfl) (.tmp 13) (.tmp 15) 24 3 (.int .i64 0) 8 rfl Tryz.underlying24 info3 rfl (by decide) (by omega) v360 y359 t347 _ _ _ (fun k_ => some k_ ≠ (.slice Ao13 t347.length co13 : Value).ownBlock ∧ some k_ ≠ (.slice Ao18 t350.length co18 : Value).ownBlock ∧ some k_ ≠ (v366 : Value).ownBlock) (fun _ => False) rfl rfl ?aO ?aR (fun _ _ h => h) (fun _ h => h.elim) ?aF ?aB ?aS ?aL ?_
       (case aR => repeat (first | exact (Kd.R_reads' HO349.out).2.2 | (with_reducible refine Kd.C_alloc ?_ _) | (with_reducible refine Kd.C_drewN ?_ _) | (with_reducible refine Kd.C_drew ?_)))
       (case aB => exact (bi HB.out))
       (case aF => exact (fun k_ hk => ⟨Kd.fresh' (Kd.R_lt (rk HO349.out)) k_ hk, Kd.fresh' (Kd.R_lt (rk HO352.out)) k_ hk, Kd.fresh' (Kd.R_lt (rk HO367.out)) k_ hk⟩))
       (case aO => exact (by (with_reducible repeat (first | apply Kd.R_alloc | apply Kd.R_drewN | apply Kd.R_drew)); exact Kd.R_mono HO361.out (fun _ hk => ⟨hk.1.1.2, ⟨hk.1.2, hk.2⟩⟩)))
       (case aS => exact (below_size (bi HB.out)))
       (case aL => have := LMc6.out; omega)
       intro v363 w25 ho hb hg hat
       rw [← Ny362.out] at ho
       have n0_ := Aside0.mk (blk_grown (g := gb341) (o := .cells #[.slice none 0 0, .slice none 0 0] 26 (0, 0)) (bk BK341.out) hg (Kd.R_ne HO361.out BK341.out (by decide)))
       have n1_ := Aside0.mk (blk_grown (g := gb342) (o := .cells #[.slice none 0 0, .slice none 0 0] 26 (0, 0)) (bk BK342.out) hg (Kd.R_ne HO361.out BK342.out (by decide)))
       have n2_ := Aside0.mk (IsS60.grown (inow HI346.out) hg (IsS60.own_ne HI346.out HO361.out (by decide)))
       have n3_ := Aside0.mk (Kd.R_after (ok := (fun k_ => some k_ ≠ (.slice Ao18 t350.length co18 : Value).ownBlock ∧ some k_ ≠ (v366 : Value).ownBlock)) (by (with_reducible repeat (first | apply Kd.R_alloc | apply Kd.R_drewN | apply Kd.R_drew)); exact Kd.R_mono HO349.out (fun _ hk => ⟨⟨hk.1.1, hk.2⟩, hk.1.2⟩)) hg hat)
       have n4_ := Aside0.mk (Kd.R_after (ok := (fun k_ => some k_ ≠ (.slice Ao13 t347.length co13 : Value).ownBlock ∧ some k_ ≠ (v366 : Value).ownBlock)) (by (with_reducible repeat (first | apply Kd.R_alloc | apply Kd.R_drewN | apply Kd.R_drew)); exact Kd.R_mono HO352.out (fun _ hk => ⟨⟨hk.1.1, hk.2⟩, hk.1.2⟩)) hg hat)
       have n5_ := Aside0.mk (blk_grown (g := gb355) (o := .cells #[.slice Ao13 t347.length co13, .slice Ao18 t350.length co18] 26 (0, 0)) (bk BK355.out) hg (Kd.R_ne HO361.out BK355.out (by decide)))
       have n6_ := Aside0.mk (Kd.R_after (ok := (fun k_ => some k_ ≠ (.slice Ao13 t347.length co13 : Value).ownBlock ∧ some k_ ≠ (.slice Ao18 t350.length co18 : Value).ownBlock)) (by (with_reducible repeat (first | apply Kd.R_alloc | apply Kd.R_drewN | apply Kd.R_drew)); exact Kd.R_mono HO367.out (fun _ hk => ⟨⟨hk.1.1.2, hk.1.2⟩, hk.2⟩)) hg hat)
       have n7_ := Aside0.mk (hb)
       have n8_ := Aside0.mk (ho)
       clear BK341
       clear BK342
       clear HI346
       clear HO349
       clear HO352
       clear BK355
       clear HO367
       clear HB
       clear HO361
       have BK341 := n0_
       have BK342 := n1_
       have HI346 := n2_
       have HO349 := n3_
       have HO352 := n4_
       have BK355 := n5_
       have HO367 := n6_
       have HB := n7_
       have HO364 := n8_
       clear n0_ n1_ n2_ n3_ n4_ n5_ n6_ n7_ n8_
       clear ho hb hg hat
       refine hK.out _ _ ⟨(blk_cell BK355.out 0).trans rfl, (blk_cell BK355.out 1).trans rfl⟩ (fun hHeld => ?_)
       clear hK K
       refine norm1 16 ?_
       exact norm_ (by simp only [putAll, Act.put, List.setIfInBounds_toArray, List.set_cons_zero, List.set_cons_succ]) (hCont (v360, v363, v366) _ ⟨hHeld, (by (with_reducible repeat (first | apply Kd.R_alloc | apply Kd.R_drewN | apply Kd.R_drew)); exact Kd.R_mono HO349.out (fun _ hk => ⟨hk.1.1, ⟨hk.2, hk.1.2⟩⟩)), (by (with_reducible repeat (first | apply Kd.R_alloc | apply Kd.R_drewN | apply Kd.R_drew)); exact Kd.R_mono HO352.out (fun _ hk => ⟨hk.1.1, ⟨hk.2, hk.1.2⟩⟩)), (rk HO364.out), (by (with_reducible repeat (first | apply Kd.R_alloc | apply Kd.R_drewN | apply Kd.R_drew)); exact Kd.R_mono HO367.out (fun _ hk => ⟨hk.1.1, ⟨hk.1.2, hk.2⟩⟩)), (bk BK341.out), (bk BK342.out), (bk BK355.out), (inow HI346.out), (bi HB.out)⟩)
     ·skip
      refine Kd.R_lit_step (Kd.int .i64) _ 3 ?hg (N := 17) ?hd (xs := ([] : List Int)) (inner := []) (ok := fun _ => True) (okp := fun _ => True) ?hr ?hp (fun _ hk => hk) trivial (Below.refl _ _) (Nat.le_refl _) (by simp) ?_; (case hd => rfl); (case hg => rfl); (case hr => first | (go_simp; done) | (go_simp; rfl)); (case hp => exact (Reps.none _ _))
      intro v366 w21 ho22 hb hg_ hnew_
      clear hg_ hnew_
      (first | rw [← Ny365.out] at ho22 | (simp only [Int.reduceToNat] at ho22; rw [← Ny365.out] at ho22))
      have n0_ := Aside0.mk (Kd.R_elder' (rk HO349.out) (Kd.R_base ho22) hb)
      have n1_ := Aside0.mk (Kd.R_elder' (rk HO352.out) (Kd.R_base ho22) hb)
      have n2_ := Aside0.mk (Kd.R_lower (Kd.R_new' (Kd.R_new' ho22 (Kd.R_lt (rk HO349.out))) (Kd.R_lt (rk HO352.out))) (below_size (bi HB.out)))
      have n3_ := Aside0.mk (blk_below (bk BK341.out) hb)
      have n4_ := Aside0.mk (blk_below (bk BK342.out) hb)
      have n5_ := Aside0.mk (IsS60.below (inow HI346.out) hb)
      have n6_ := Aside0.mk (blk_below (bk BK355.out) hb)
      have n7_ := Aside0.mk (below_step (bi HB.out) hb)
      clear HO349
      clear HO352
      clear BK341
      clear BK342
      clear HI346
      clear BK355
      clear HB
      have HO349 := n0_
      have HO352 := n1_
      have HO367 := n2_
      have BK341 := n3_
      have BK342 := n4_
      have HI346 := n5_
      have BK355 := n6_
      have HB := n7_
      clear n0_ n1_ n2_ n3_ n4_ n5_ n6_ n7_
      clear hb ho22
      refine hK.out _ _ ⟨(blk_cell BK355.out 0).trans rfl, (blk_cell BK355.out 1).trans rfl⟩ (fun hHeld => ?_)
      clear hK K
      refine norm1 17 ?_
      refine one_ (i := 1) (N := some 13) #[true, true, true, true, false, true, true, true, false, false, false, false] rfl rfl (one_of HT_.out (by kernel_rfl)) (by decide) (fun K hK => ?_)
      refine Kd.R_lit_step (Kd.int .i64) _ 3 ?hg (N := 13) ?hd (xs := ([] : List Int)) (inner := []) (ok := fun _ => True) (okp := fun _ => True) ?hr ?hp (fun _ hk => hk) trivial (Below.refl _ _) (Nat.le_refl _) (by simp) ?_; (case hd => rfl); (case hg => rfl); (case hr => first | (go_simp; done) | (go_simp; rfl)); (case hp => exact (Reps.none _ _))
      intro v360 w23 ho24 hb hg_ hnew_
      clear hg_ hnew_
      (first | rw [← Ny359.out] at ho24 | (simp only [Int.reduceToNat] at ho24; rw [← Ny359.out] at ho24))
      have n0_ := Aside0.mk (Kd.R_elder' (rk HO349.out) (Kd.R_base ho24) hb)
      have n1_ := Aside0.mk (Kd.R_elder' (rk HO352.out) (Kd.R_base ho24) hb)
      have n2_ := Aside0.mk (Kd.R_elder' (rk HO367.out) (Kd.R_base ho24) hb)
      have n3_ := Aside0.mk (Kd.R_lower (Kd.R_new' (Kd.R_new' (Kd.R_new' ho24 (Kd.R_lt (rk HO349.out))) (Kd.R_lt (rk HO352.out))) (Kd.R_lt (rk HO367.out))) (below_size (bi HB.out)))
      have n4_ := Aside0.mk (blk_below (bk BK341.out) hb)
      have n5_ := Aside0.mk (blk_below (bk BK342.out) hb)
      have n6_ := Aside0.mk (IsS60.below (inow HI346.out) hb)
      have n7_ := Aside0.mk (blk_below (bk BK355.out) hb)
      have n8_ := Aside0.mk (below_step (bi HB.out) hb)
      clear HO349
      clear HO352
      clear HO367
      clear BK341
      clear BK342
      clear HI346
      clear BK355
      clear HB
      have HO349 := n0_
      have HO352 := n1_
      have HO367 := n2_
      have HO361 := n3_
      have BK341 := n4_
      have BK342 := n5_
      have HI346 := n6_
      have BK355 := n7_
      have HB := n8_
      clear n0_ n1_ n2_ n3_ n4_ n5_ n6_ n7_ n8_
      clear hb ho24
      refine hK.out _ _ ⟨(blk_cell BK355.out 0).trans rfl, (blk_cell BK355.out 1).trans rfl⟩ (fun hHeld => ?_)
      clear hK K
      refine norm1 13 ?_
      refine one_ (i := 4) (N := some 16) (tf 12 8) rfl rfl (one_of HT_.out (by kernel_rfl)) (by decide) (fun K hK => ?_)
      refine Kd.R_append_rows_step (Kd.int .i64) (w0 := w) w.heap.size (by rfl) (.tmp 13) (.tmp 15) 24 3 (.int .i64 0) 8 rfl Tryz.underlying24 info3 rfl (by decide) (by omega) v360 y359 t347 _ _ _ (fun k_ => some k_ ≠ (.slice Ao13 t347.length co13 : Value).ownBlock ∧ some k_ ≠ (.slice Ao18 t350.length co18 : Value).ownBlock ∧ some k_ ≠ (v366 : Value).ownBlock) (fun _ => False) rfl rfl ?aO ?aR (fun _ _ h => h) (fun _ h => h.elim) ?aF ?aB ?aS ?aL ?_
      (case aR => repeat (first | exact (Kd.R_reads' HO349.out).2.2 | (with_reducible refine Kd.C_alloc ?_ _) | (with_reducible refine Kd.C_drewN ?_ _) | (with_reducible refine Kd.C_drew ?_)))
      (case aB => exact (bi HB.out))
      (case aF => exact (fun k_ hk => ⟨Kd.fresh' (Kd.R_lt (rk HO349.out)) k_ hk, Kd.fresh' (Kd.R_lt (rk HO352.out)) k_ hk, Kd.fresh' (Kd.R_lt (rk HO367.out)) k_ hk⟩))
      (case aO => exact (by (with_reducible repeat (first | apply Kd.R_alloc | apply Kd.R_drewN | apply Kd.R_drew)); exact Kd.R_mono HO361.out (fun _ hk => ⟨hk.1.1.2, ⟨hk.1.2, hk.2⟩⟩)))
      (case aS => exact (below_size (bi HB.out)))
      (case aL => have := LMc6.out; omega)
      intro v363 w25 ho hb hg hat
      rw [← Ny362.out] at ho
      have n0_ := Aside0.mk (blk_grown (g := gb341) (o := .cells #[.slice none 0 0, .slice none 0 0] 26 (0, 0)) (bk BK341.out) hg (Kd.R_ne HO361.out BK341.out (by decide)))
      have n1_ := Aside0.mk (blk_grown (g := gb342) (o := .cells #[.slice none 0 0, .slice none 0 0] 26 (0, 0)) (bk BK342.out) hg (Kd.R_ne HO361.out BK342.out (by decide)))
      have n2_ := Aside0.mk (IsS60.grown (inow HI346.out) hg (IsS60.own_ne HI346.out HO361.out (by decide)))
      have n3_ := Aside0.mk (Kd.R_after (ok := (fun k_ => some k_ ≠ (.slice Ao18 t350.length co18 : Value).ownBlock ∧ some k_ ≠ (v366 : Value).ownBlock)) (rk HO349.out) hg hat)
      have n4_ := Aside0.mk (Kd.R_after (ok := (fun k_ => some k_ ≠ (.slice Ao13 t347.length co13 : Value).ownBlock ∧ some k_ ≠ (v366 : Value).ownBlock)) (rk HO352.out) hg hat)
      have n5_ := Aside0.mk (blk_grown (g := gb355) (o := .cells #[.slice Ao13 t347.length co13, .slice Ao18 t350.length co18] 26 (0, 0)) (bk BK355.out) hg (Kd.R_ne HO361.out BK355.out (by decide)))
      have n6_ := Aside0.mk (Kd.R_after (ok := (fun k_ => some k_ ≠ (.slice Ao13 t347.length co13 : Value).ownBlock ∧ some k_ ≠ (.slice Ao18 t350.length co18 : Value).ownBlock)) (by (with_reducible repeat (first | apply Kd.R_alloc | apply Kd.R_drewN | apply Kd.R_drew)); exact Kd.R_mono HO367.out (fun _ hk => ⟨⟨hk.1.1.2, hk.1.2⟩, hk.2⟩)) hg hat)
      have n7_ := Aside0.mk (hb)
      have n8_ := Aside0.mk (ho)
      clear BK341
      clear BK342
      clear HI346
      clear HO349
      clear HO352
      clear BK355
      clear HO367
      clear HB
      clear HO361
      have BK341 := n0_
      have BK342 := n1_
      have HI346 := n2_
      have HO349 := n3_
      have HO352 := n4_
      have BK355 := n5_
      have HO367 := n6_
      have HB := n7_
      have HO364 := n8_
      clear n0_ n1_ n2_ n3_ n4_ n5_ n6_ n7_ n8_
      clear ho hb hg hat
      refine hK.out _ _ ⟨(blk_cell BK355.out 0).trans rfl, (blk_cell BK355.out 1).trans rfl⟩ (fun hHeld => ?_)
      clear hK K
      refine norm1 16 ?_
      exact norm_ (by simp only [putAll, Act.put, List.setIfInBounds_toArray, List.set_cons_zero, List.set_cons_succ]) (hCont (v360, v363, v366) _ ⟨hHeld, (by (with_reducible repeat (first | apply Kd.R_alloc | apply Kd.R_drewN | apply Kd.R_drew)); exact Kd.R_mono HO349.out (fun _ hk => ⟨hk.1.1, ⟨hk.2, hk.1.2⟩⟩)), (by (with_reducible repeat (first | apply Kd.R_alloc | apply Kd.R_drewN | apply Kd.R_drew)); exact Kd.R_mono HO352.out (fun _ hk => ⟨hk.1.1, ⟨hk.2, hk.1.2⟩⟩)), (rk HO364.out), (by (with_reducible repeat (first | apply Kd.R_alloc | apply Kd.R_drewN | apply Kd.R_drew)); exact Kd.R_mono HO367.out (fun _ hk => ⟨hk.1.1, ⟨hk.1.2, hk.2⟩⟩)), (bk BK341.out), (bk BK342.out), (bk BK355.out), (inow HI346.out), (bi HB.out)⟩)
    rintro ⟨v360, v363, v366⟩ w26 ⟨hS_, h0_, h1_, h2_, h3_, h4_, h5_, h6_, h7_, h8_⟩
    have n0_ : Aside0 (Kd.R (Kd.int .i64) 3 w26 w.heap.size (fun k_ => some k_ ≠ (.slice Ao18 t350.length co18 : Value).ownBlock ∧ some k_ ≠ (v363 : Value).ownBlock ∧ some k_ ≠ (v366 : Value).ownBlock) (.slice Ao13 t347.length co13) t347) := ⟨h0_⟩
    have n1_ : Aside0 (Kd.R (Kd.int .i64) 3 w26 w.heap.size (fun k_ => some k_ ≠ (.slice Ao13 t347.length co13 : Value).ownBlock ∧ some k_ ≠ (v363 : Value).ownBlock ∧ some k_ ≠ (v366 : Value).ownBlock) (.slice Ao18 t350.length co18) t350) := ⟨h1_⟩
    have n2_ : Aside0 (Kd.R (Kd.int .i64) 3 w26 w.heap.size (fun k_ => some k_ ≠ (.slice Ao13 t347.length co13 : Value).ownBlock ∧ some k_ ≠ (.slice Ao18 t350.length co18 : Value).ownBlock ∧ some k_ ≠ (v366 : Value).ownBlock) v363 y362) := ⟨h2_⟩
    have n3_ : Aside0 (Kd.R (Kd.int .i64) 3 w26 w.heap.size (fun k_ => some k_ ≠ (.slice Ao13 t347.length co13 : Value).ownBlock ∧ some k_ ≠ (.slice Ao18 t350.length co18 : Value).ownBlock ∧ some k_ ≠ (v363 : Value).ownBlock) v366 y365) := ⟨h3_⟩
    have n4_ : Aside0 (w26.heap[gb341]? = some (.cells #[.slice none 0 0, .slice none 0 0] 26 (0, 0))) := ⟨h4_⟩
    have n5_ : Aside0 (w26.heap[gb342]? = some (.cells #[.slice none 0 0, .slice none 0 0] 26 (0, 0))) := ⟨h5_⟩
    have n6_ : Aside0 (w26.heap[gb355]? = some (.cells #[.slice Ao13 t347.length co13, .slice Ao18 t350.length co18] 26 (0, 0))) := ⟨h6_⟩
    have n7_ : Aside0 (IsS60 w w26 g346 t343 t357 t358) := ⟨h7_⟩
    have n8_ : Aside0 (Below w.heap.size w w26) := ⟨h8_⟩
    clear HO349
    clear HO352
    clear BK341
    clear BK342
    clear BK355
    clear HI346
    clear HB
    clear h0_ h1_ h2_ h3_ h4_ h5_ h6_ h7_ h8_
    have HO349 := n0_
    have HO352 := n1_
    have HO364 := n2_
    have HO367 := n3_
    have BK341 := n4_
    have BK342 := n5_
    have BK355 := n6_
    have HI346 := n7_
    have HB := n8_
    clear n0_ n1_ n2_ n3_ n4_ n5_ n6_ n7_ n8_
    have hHeld : w26.cell? ⟨gb355, 0, none⟩ = some (.slice Ao13 t347.length co13) ∧ w26.cell? ⟨gb355, 1, none⟩ = some (.slice Ao18 t350.length co18) := hS_
    refine norm_ (a' := ?_) ?_ ?_
    rotate_left
    ·simp only [putAll, Act.put, List.setIfInBounds_toArray, List.set_cons_zero, List.set_cons_succ]
     rfl
    refine one_ (i := 8) (N := some 20) (tf 12 9) rfl rfl (one_of HT_.out (by kernel_rfl)) (by decide) (fun K hK => ?_)
    refine Kd.R_append_rows_step (Kd.int .i64) (w0 := w) w.heap.size (by rfl) (.tmp 17) (.tmp 19) 24 3 (.int .i64 0) 8 rfl Tryz.underlying24 info3 rfl (by decide) (by omega) v366 y365 t350 _ _ _ (fun k_ => some k_ ≠ (.slice Ao13 t347.length co13 : Value).ownBlock ∧ some k_ ≠ (.slice Ao18 t350.length co18 : Value).ownBlock ∧ some k_ ≠ (v363 : Value).ownBlock) (fun _ => False) rfl rfl ?aO ?aR (fun _ _ h => h) (fun _ h => h.elim) ?aF ?aB ?aS ?aL ?_
    (case aR => repeat (first | exact (Kd.R_reads' HO352.out).2.2 | (with_reducible refine Kd.C_alloc ?_ _) | (with_reducible refine Kd.C_drewN ?_ _) | (with_reducible refine Kd.C_drew ?_)))
    (case aB => exact (bi HB.out))
    (case aF => exact (fun k_ hk => ⟨Kd.fresh' (Kd.R_lt (rk HO349.out)) k_ hk, Kd.fresh' (Kd.R_lt (rk HO352.out)) k_ hk, Kd.fresh' (Kd.R_lt (rk HO364.out)) k_ hk⟩))
    (case aO => exact (rk HO367.out))
    (case aS => exact (below_size (bi HB.out)))
    (case aL => have := LMc7.out; omega)
    intro v369 w27 ho hb hg hat
    rw [← Ny368.out] at ho
    have n0_ := Aside0.mk (blk_grown (g := gb341) (o := .cells #[.slice none 0 0, .slice none 0 0] 26 (0, 0)) (bk BK341.out) hg (Kd.R_ne HO367.out BK341.out (by decide)))
    have n1_ := Aside0.mk (blk_grown (g := gb342) (o := .cells #[.slice none 0 0, .slice none 0 0] 26 (0, 0)) (bk BK342.out) hg (Kd.R_ne HO367.out BK342.out (by decide)))
    have n2_ := Aside0.mk (IsS60.grown (inow HI346.out) hg (IsS60.own_ne HI346.out HO367.out (by decide)))
    have n3_ := Aside0.mk (Kd.R_after (ok := (fun k_ => some k_ ≠ (.slice Ao18 t350.length co18 : Value).ownBlock ∧ some k_ ≠ (v363 : Value).ownBlock)) (by (with_reducible repeat (first | apply Kd.R_alloc | apply Kd.R_drewN | apply Kd.R_drew)); exact Kd.R_mono HO349.out (fun _ hk => ⟨⟨hk.1, hk.2.1⟩, hk.2.2⟩)) hg hat)
    have n4_ := Aside0.mk (Kd.R_after (ok := (fun k_ => some k_ ≠ (.slice Ao13 t347.length co13 : Value).ownBlock ∧ some k_ ≠ (v363 : Value).ownBlock)) (by (with_reducible repeat (first | apply Kd.R_alloc | apply Kd.R_drewN | apply Kd.R_drew)); exact Kd.R_mono HO352.out (fun _ hk => ⟨⟨hk.1, hk.2.1⟩, hk.2.2⟩)) hg hat)
    have n5_ := Aside0.mk (blk_grown (g := gb355) (o := .cells #[.slice Ao13 t347.length co13, .slice Ao18 t350.length co18] 26 (0, 0)) (bk BK355.out) hg (Kd.R_ne HO367.out BK355.out (by decide)))
    have n6_ := Aside0.mk (Kd.R_after (ok := (fun k_ => some k_ ≠ (.slice Ao13 t347.length co13 : Value).ownBlock ∧ some k_ ≠ (.slice Ao18 t350.length co18 : Value).ownBlock)) (by (with_reducible repeat (first | apply Kd.R_alloc | apply Kd.R_drewN | apply Kd.R_drew)); exact Kd.R_mono HO364.out (fun _ hk => ⟨⟨hk.1, hk.2.1⟩, hk.2.2⟩)) hg hat)
    have n7_ := Aside0.mk (hb)
    have n8_ := Aside0.mk (ho)
    clear BK341
    clear BK342
    clear HI346
    clear HO349
    clear HO352
    clear BK355
    clear HO364
    clear HB
    clear HO367
    have BK341 := n0_
    have BK342 := n1_
    have HI346 := n2_
    have HO349 := n3_
    have HO352 := n4_
    have BK355 := n5_
    have HO364 := n6_
    have HB := n7_
    have HO370 := n8_
    clear n0_ n1_ n2_ n3_ n4_ n5_ n6_ n7_ n8_
    clear ho hb hg hat
    obtain ⟨Ao28, co28, eo28⟩ := Kd.R_slice HO370.out
    (first | subst eo28 | (injection eo28 with f1_ f2_ f3_; have f4_ := f1_.symm; have f5_ := f3_.symm; clear f1_ f2_ f3_; subst f4_; subst f5_))
    obtain ⟨Ao29, co29, eo29⟩ := Kd.R_slice HO364.out
    (first | subst eo29 | (injection eo29 with f1_ f2_ f3_; have f4_ := f1_.symm; have f5_ := f3_.symm; clear f1_ f2_ f3_; subst f4_; subst f5_))
    refine hK.out _ _ ⟨(blk_cell BK355.out 0).trans rfl, (blk_cell BK355.out 1).trans rfl⟩ (fun hHeld => ?_)
    clear hK K
    refine norm1 20 ?_
    refine pure1 9 21 (tf 12 10) (ay HT_.out) ?_
    refine one_ (i := 10) (N := none) (tf 12 11) rfl rfl (one_of HT_.out (by kernel_rfl)) (by decide) (fun K hK => ?_)
    have hs30 : w27.cell? ⟨gb341, 0, none⟩ = some (.slice none 0 0) := (blk_cell BK341.out 0).trans rfl
    have hfs30 := blk_frozen BK341.out 0
    have hns30_1 := NB342_341.out
    have hns30_2 := NB355_341.out
    have hms30_1 := NB341_342.out
    have hms30_2 := NB341_355.out
    have hs31 : w27.cell? ⟨gb341, 1, none⟩ = some (.slice none 0 0) := (blk_cell BK341.out 1).trans rfl
    have hfs31 := blk_frozen BK341.out 1
    have hns31_1 := NB342_341.out
    have hns31_2 := NB355_341.out
    have hms31_1 := NB341_342.out
    have hms31_2 := NB341_355.out
    refine skip_ (w1 := ?_) (by rfl) rfl ?_ ?_
    rotate_left
    ·go_simp
     rfl
    refine hK.out _ _ ⟨((cell_far (p := ⟨gb341, _, none⟩) NB355_341.out _).trans (((cell_far (p := ⟨gb341, _, none⟩) NB355_341.out _).trans (hHeld.1)))), ((cell_far (p := ⟨gb341, _, none⟩) NB355_341.out _).trans (((cell_far (p := ⟨gb341, _, none⟩) NB355_341.out _).trans (hHeld.2))))⟩ (fun hHeld => ?_)
    clear hK K
    refine one_ (i := 11) (N := none) (tf 12 12) rfl rfl (one_of HT_.out (by kernel_rfl)) (by decide) (fun K hK => ?_)
    have hs32 : w27.cell? ⟨gb342, 0, none⟩ = some (.slice none 0 0) := (blk_cell BK342.out 0).trans rfl
    have hfs32 := blk_frozen BK342.out 0
    have hns32_0 := NB341_342.out
    have hns32_2 := NB355_342.out
    have hms32_0 := NB342_341.out
    have hms32_2 := NB342_355.out
    have hs33 : w27.cell? ⟨gb342, 1, none⟩ = some (.slice none 0 0) := (blk_cell BK342.out 1).trans rfl
    have hfs33 := blk_frozen BK342.out 1
    have hns33_0 := NB341_342.out
    have hns33_2 := NB355_342.out
    have hms33_0 := NB342_341.out
    have hms33_2 := NB342_355.out
    refine skip_ (w1 := ?_) (by rfl) rfl ?_ ?_
    rotate_left
    ·go_simp
     rfl
    refine hK.out _ _ ⟨((cell_far (p := ⟨gb342, _, none⟩) NB355_342.out _).trans (((cell_far (p := ⟨gb342, _, none⟩) NB355_342.out _).trans (hHeld.1)))), ((cell_far (p := ⟨gb342, _, none⟩) NB355_342.out _).trans (((cell_far (p := ⟨gb342, _, none⟩) NB355_342.out _).trans (hHeld.2))))⟩ (fun hHeld => ?_)
    clear hK K
    refine done_ (done_of HT_.out (by kernel_rfl)) ?_
    try go_wp2
    refine bodyPost_ret (results_cc rfl _ _ gb341 gb342 26 26 #[.slice Ao13 t347.length co13, .slice Ao18 t350.length co18] #[.slice Ao29 y362.length co29, .slice Ao28 y368.length co28] (0, 0) (0, 0) _ _ rfl (by (with_reducible repeat (first | refine blk_drewN ?_ _ | refine blk_drew ?_ | refine blk_alloc ?_ _)); refine blk_far ?_ NB341_342.out _; (with_reducible repeat (first | refine blk_drewN ?_ _ | refine blk_drew ?_ | refine blk_alloc ?_ _)); refine blk_far ?_ NB341_342.out _; (with_reducible repeat (first | refine blk_drewN ?_ _ | refine blk_drew ?_ | refine blk_alloc ?_ _)); refine blk_put (cs := #[.slice Ao13 t347.length co13, .slice none 0 0]) ?_ 1 _ rfl; (with_reducible repeat (first | refine blk_drewN ?_ _ | refine blk_drew ?_ | refine blk_alloc ?_ _)); refine blk_put (cs := #[.slice none 0 0, .slice none 0 0]) ?_ 0 _ rfl; (with_reducible repeat (first | refine blk_drewN ?_ _ | refine blk_drew ?_ | refine blk_alloc ?_ _)); exact BK341.out) Tryz.underlying26 rfl (by kernel_rfl) rfl (by (with_reducible repeat (first | refine blk_drewN ?_ _ | refine blk_drew ?_ | refine blk_alloc ?_ _)); refine blk_put (cs := #[.slice Ao29 y362.length co29, .slice none 0 0]) ?_ 1 _ rfl; (with_reducible repeat (first | refine blk_drewN ?_ _ | refine blk_drew ?_ | refine blk_alloc ?_ _)); refine blk_put (cs := #[.slice none 0 0, .slice none 0 0]) ?_ 0 _ rfl; (with_reducible repeat (first | refine blk_drewN ?_ _ | refine blk_drew ?_ | refine blk_alloc ?_ _)); refine blk_far ?_ NB342_341.out _; (with_reducible repeat (first | refine blk_drewN ?_ _ | refine blk_drew ?_ | refine blk_alloc ?_ _)); refine blk_far ?_ NB342_341.out _; (with_reducible repeat (first | refine blk_drewN ?_ _ | refine blk_drew ?_ | refine blk_alloc ?_ _)); exact BK342.out) Tryz.underlying26 rfl (by kernel_rfl)) rfl ?_
    exact ⟨_, _, _, _, by first | rfl | (simp [errW_none, errW_some] <;> rfl) | (simp [*, errW_none, errW_some] <;> rfl), by (with_reducible repeat (first | apply Kd.R_alloc | apply Kd.R_drewN | apply Kd.R_drew)); exact Kd.R_mono (Kd.R_far (p := ⟨gb342, 1, none⟩) (Kd.R_far (p := ⟨gb342, 0, none⟩) (Kd.R_far (p := ⟨gb341, 1, none⟩) (Kd.R_far (p := ⟨gb341, 0, none⟩) (Kd.R_types (Kd.R_types HO349.out BK341.out (by decide)) BK342.out (by decide)) (fun _ hk => hk.1.2) (.slice Ao13 t347.length co13)) (fun _ hk => hk.1.2) (.slice Ao18 t350.length co18)) (fun _ hk => hk.2) (.slice Ao29 y362.length co29)) (fun _ hk => hk.2) (.slice Ao28 y368.length co28)) (fun _ hk => ⟨hk.1.1.1.1, ⟨hk.1.1.1.2, hk.1.1.2⟩⟩), by (with_reducible repeat (first | apply Kd.R_alloc | apply Kd.R_drewN | apply Kd.R_drew)); exact Kd.R_mono (Kd.R_far (p := ⟨gb342, 1, none⟩) (Kd.R_far (p := ⟨gb342, 0, none⟩) (Kd.R_far (p := ⟨gb341, 1, none⟩) (Kd.R_far (p := ⟨gb341, 0, none⟩) (Kd.R_types (Kd.R_types HO352.out BK341.out (by decide)) BK342.out (by decide)) (fun _ hk => hk.1.2) (.slice Ao13 t347.length co13)) (fun _ hk => hk.1.2) (.slice Ao18 t350.length co18)) (fun _ hk => hk.2) (.slice Ao29 y362.length co29)) (fun _ hk => hk.2) (.slice Ao28 y368.length co28)) (fun _ hk => ⟨hk.1.1.1.1, ⟨hk.1.1.1.2, hk.1.1.2⟩⟩), by (with_reducible repeat (first | apply Kd.R_alloc | apply Kd.R_drewN | apply Kd.R_drew)); exact Kd.R_mono (Kd.R_far (p := ⟨gb342, 1, none⟩) (Kd.R_far (p := ⟨gb342, 0, none⟩) (Kd.R_far (p := ⟨gb341, 1, none⟩) (Kd.R_far (p := ⟨gb341, 0, none⟩) (Kd.R_types (Kd.R_types HO364.out BK341.out (by decide)) BK342.out (by decide)) (fun _ hk => hk.1.2) (.slice Ao13 t347.length co13)) (fun _ hk => hk.1.2) (.slice Ao18 t350.length co18)) (fun _ hk => hk.2) (.slice Ao29 y362.length co29)) (fun _ hk => hk.2) (.slice Ao28 y368.length co28)) (fun _ hk => ⟨hk.1.1.1.1, ⟨hk.1.1.1.2, hk.1.1.2⟩⟩), by (with_reducible repeat (first | apply Kd.R_alloc | apply Kd.R_drewN | apply Kd.R_drew)); exact Kd.R_mono (Kd.R_far (p := ⟨gb342, 1, none⟩) (Kd.R_far (p := ⟨gb342, 0, none⟩) (Kd.R_far (p := ⟨gb341, 1, none⟩) (Kd.R_far (p := ⟨gb341, 0, none⟩) (Kd.R_types (Kd.R_types HO370.out BK341.out (by decide)) BK342.out (by decide)) (fun _ hk => hk.1.2) (.slice Ao13 t347.length co13)) (fun _ hk => hk.1.2) (.slice Ao18 t350.length co18)) (fun _ hk => hk.2) (.slice Ao29 y362.length co29)) (fun _ hk => hk.2) (.slice Ao28 y368.length co28)) (fun _ hk => ⟨hk.1.1.1, ⟨hk.1.1.2.1, hk.1.1.2.2⟩⟩), bi HB.out⟩
   ·rw [if_neg c7] at H
    exact absurd H (by simp)
  ·rw [if_neg c6] at H
   exact absurd H (by simp)
 ·replace c5 := Bool.eq_false_iff.mpr c5
  subst c5
  have H1 : ((spec_l4Bent.f k t343 t357 t358 7).bind fun bt371 => (some (t347, t350, bt371.1, bt371.2.1))) = some (r1, r2, r3, r4) := by rw [if_neg (show ¬ (false = true) by decide)] at H; exact H
  clear H
  have H := H1
  clear H1
  replace H := Option.bind_eq_some_iff.mp H
  obtain ⟨⟨t371, t374, t377, t378⟩, A340, H⟩ := H
  replace H : (some (t347, t350, t371, t374)) = some (r1, r2, r3, r4) := H
  have A34 := Aside0.mk A340
  clear A340
  simp only [Option.some.injEq, Prod.mk.injEq] at H
  obtain ⟨rfl, rfl, rfl, rfl⟩ := H
  go_enter Tryz.func10, Tryz.ntmps10
  try go_wp2_with (first | (refine boxE 2 #[.slice none 0 0, .slice none 0 0] 26 rfl ?_; intro gb341 hg w35 hbox hb; have BK341 := Aside0.mk (hbox); have GW341 := Aside0.mk ((by rw [hg]; exact (below_size bnow) : w.heap.size ≤ gb341)); have GE341 := Aside0.mk ((by rw [hg]; exact (below_size bnow) : w.heap.size ≤ gb341)); replace HB := Aside0.mk (below_step bnow hb); clear hb hbox hg) | (refine boxE 3 #[.slice none 0 0, .slice none 0 0] 26 rfl ?_; intro gb342 hg w36 hbox hb; have BK342 := Aside0.mk (hbox); have GW342 := Aside0.mk ((by rw [hg]; exact (below_size (bn HB.out)) : w.heap.size ≤ gb342)); have GE342 := Aside0.mk ((by rw [hg]; exact (below_size (bn HB.out)) : w.heap.size ≤ gb342)); replace HB := Aside0.mk (below_step (bn HB.out) hb); have NB341_342 := Aside0.mk ((by rw [hg]; exact Nat.ne_of_lt (blk_lt (g := gb341) (o := .cells #[.slice none 0 0, .slice none 0 0] 26 (0, 0)) (bk BK341.out)) : gb341 ≠ gb342)); have NB342_341 := Aside0.mk ((by rw [hg]; exact Nat.ne_of_gt (blk_lt (g := gb341) (o := .cells #[.slice none 0 0, .slice none 0 0] 26 (0, 0)) (bk BK341.out)) : gb342 ≠ gb341)); replace BK341 := Aside0.mk (blk_below (bk BK341.out) hb); clear hb hbox hg) | ((with_reducible refine gate_callee (f := 31) rfl ?_); refine goesL_ (some 7) rfl rfl Tryz.func31 (by kernel_rfl) rfl #[.slice A0 l0.length c0] rfl lm ?_; (with_reducible refine (spec_l1New.calls k _ _ l0 t343 t344 t345 w _ (bn HB.out) HR0.out HC0.out A2.out).mono ?_); rintro e w37 ⟨g346, rfl, hi, hb, hb2⟩; refine ⟨_, rfl, ?_⟩; replace HB := Aside0.mk (hb); have HI346 := Aside0.mk (hi); have NB346_341 := Aside0.mk (IsS60.ne_blk hi (blk_below (bk BK341.out) hb2) (by decide)); have NB341_346 := Aside0.mk (Ne.symm (IsS60.ne_blk hi (blk_below (bk BK341.out) hb2) (by decide))); replace BK341 := Aside0.mk (blk_below (bk BK341.out) hb2); have NB346_342 := Aside0.mk (IsS60.ne_blk hi (blk_below (bk BK342.out) hb2) (by decide)); have NB342_346 := Aside0.mk (Ne.symm (IsS60.ne_blk hi (blk_below (bk BK342.out) hb2) (by decide))); replace BK342 := Aside0.mk (blk_below (bk BK342.out) hb2); (try clear hb); (try clear hb2); (try clear hk); (try clear hi)) | ((with_reducible refine gate_callee (f := 30) rfl ?_); refine goesL_ (some 9) rfl rfl Tryz.func30 (by kernel_rfl) rfl #[.pointer (some ⟨g346, 0, none⟩), .int .i64 7] rfl lm ?_; (with_reducible refine (spec_l4Bent.calls k g346 t343 t344 t345 7 t347 t350 t353 t354 w _ (inow HI346.out) (bi HB.out) A3.out).mono ?_); rintro e w38 ⟨v348, v351, rfl, ho0, ho1, hi, hb, hk⟩; refine ⟨_, rfl, ?_⟩; replace BK341 := Aside0.mk (KeepBut.blk hk (g' := gb341) (o := .cells #[.slice none 0 0, .slice none 0 0] 26 (0, 0)) (bk BK341.out) NB341_346.out (by simp)); replace BK342 := Aside0.mk (KeepBut.blk hk (g' := gb342) (o := .cells #[.slice none 0 0, .slice none 0 0] 26 (0, 0)) (bk BK342.out) NB342_346.out (by simp)); have HO349 := Aside0.mk (Kd.R_lower ho0 (below_size (bi HB.out))); have HO352 := Aside0.mk (Kd.R_lower ho1 (below_size (bi HB.out))); replace HB := Aside0.mk (hb); replace HI346 := Aside0.mk (hi); (try clear hb); (try clear hb2); (try clear hk); (try clear hi); (try clear ho0); (try clear ho1)) | (refine boxE 5 #[.slice none 0 0, .slice none 0 0] 26 rfl ?_; intro gb355 hg w39 hbox hb; replace HO349 := Aside0.mk (Kd.R_below (rk HO349.out) hb); replace HO352 := Aside0.mk (Kd.R_below (rk HO352.out) hb); have BK355 := Aside0.mk (hbox); have GW355 := Aside0.mk ((by rw [hg]; exact (below_size (bi HB.out)) : w.heap.size ≤ gb355)); have GE355 := Aside0.mk ((by rw [hg]; exact (below_size (bi HB.out)) : w.heap.size ≤ gb355)); replace HB := Aside0.mk (below_step (bi HB.out) hb); have NB341_355 := Aside0.mk ((by rw [hg]; exact Nat.ne_of_lt (blk_lt (g := gb341) (o := .cells #[.slice none 0 0, .slice none 0 0] 26 (0, 0)) (bk BK341.out)) : gb341 ≠ gb355)); have NB355_341 := Aside0.mk ((by rw [hg]; exact Nat.ne_of_gt (blk_lt (g := gb341) (o := .cells #[.slice none 0 0, .slice none 0 0] 26 (0, 0)) (bk BK341.out)) : gb355 ≠ gb341)); replace BK341 := Aside0.mk (blk_below (bk BK341.out) hb); have NB342_355 := Aside0.mk ((by rw [hg]; exact Nat.ne_of_lt (blk_lt (g := gb342) (o := .cells #[.slice none 0 0, .slice none 0 0] 26 (0, 0)) (bk BK342.out)) : gb342 ≠ gb355)); have NB355_342 := Aside0.mk ((by rw [hg]; exact Nat.ne_of_gt (blk_lt (g := gb342) (o := .cells #[.slice none 0 0, .slice none 0 0] 26 (0, 0)) (bk BK342.out)) : gb355 ≠ gb342)); replace BK342 := Aside0.mk (blk_below (bk BK342.out) hb); have NB346_355 := Aside0.mk ((by rw [hg]; exact Nat.ne_of_lt (IsS60.lt (show IsS60 w _ g346 t343 t353 t354 from inow HI346.out)) : g346 ≠ gb355)); have NB355_346 := Aside0.mk ((by rw [hg]; exact Nat.ne_of_gt (IsS60.lt (show IsS60 w _ g346 t343 t353 t354 from inow HI346.out)) : gb355 ≠ g346)); replace HI346 := Aside0.mk (IsS60.below (inow HI346.out) hb); clear hb hbox hg; obtain ⟨Ao40, co40, eo40⟩ := Kd.R_slice HO349.out; subst eo40; have hnb41 := NB355_341.out; have hnc41 := NB341_355.out; have hnb42 := NB355_342.out; have hnc42 := NB342_355.out; have hnb43 := NB355_346.out; have hnc43 := NB346_355.out; have hcz44_0 : w39.cell? ⟨gb355, 0, none⟩ = some (.slice none 0 0) := (blk_cell BK355.out 0).trans rfl; have hcz44_1 : w39.cell? ⟨gb355, 1, none⟩ = some (.slice none 0 0) := (blk_cell BK355.out 1).trans rfl; have hfz44_0 := blk_frozen BK355.out 0; have hfz44_1 := blk_frozen BK355.out 1; obtain ⟨Ao45, co45, eo45⟩ := Kd.R_slice HO352.out; subst eo45) | ((with_reducible refine gate_callee (f := 35) rfl ?_); refine goesL_ (some 11) rfl rfl Tryz.func35 (by kernel_rfl) rfl #[.pointer (some ⟨g346, 0, none⟩), .int .i64 2] rfl lm ?_; (with_reducible refine (spec_l1Once.calls g346 t343 t353 t354 2 false t357 t358 w _ (inow HI346.out) (bi HB.out) A4.out).mono ?_); rintro e w46 ⟨rfl, hi, hb, hk⟩; refine ⟨_, rfl, ?_⟩; replace BK341 := Aside0.mk (KeepBut.blk hk (g' := gb341) (o := .cells #[.slice none 0 0, .slice none 0 0] 26 (0, 0)) (by (with_reducible repeat (first | refine blk_drewN ?_ _ | refine blk_drew ?_ | refine blk_alloc ?_ _)); refine blk_far ?_ NB341_355.out _; (with_reducible repeat (first | refine blk_drewN ?_ _ | refine blk_drew ?_ | refine blk_alloc ?_ _)); refine blk_far ?_ NB341_355.out _; (with_reducible repeat (first | refine blk_drewN ?_ _ | refine blk_drew ?_ | refine blk_alloc ?_ _)); exact BK341.out) NB341_346.out (by simp)); replace BK342 := Aside0.mk (KeepBut.blk hk (g' := gb342) (o := .cells #[.slice none 0 0, .slice none 0 0] 26 (0, 0)) (by (with_reducible repeat (first | refine blk_drewN ?_ _ | refine blk_drew ?_ | refine blk_alloc ?_ _)); refine blk_far ?_ NB342_355.out _; (with_reducible repeat (first | refine blk_drewN ?_ _ | refine blk_drew ?_ | refine blk_alloc ?_ _)); refine blk_far ?_ NB342_355.out _; (with_reducible repeat (first | refine blk_drewN ?_ _ | refine blk_drew ?_ | refine blk_alloc ?_ _)); exact BK342.out) NB342_346.out (by simp)); replace HO349 := Aside0.mk (Kd.R_mono (Kd.R_keep (IsS60.apart (show IsS60 w _ g346 t343 t353 t354 from inow HI346.out) (by (with_reducible repeat (first | apply Kd.R_alloc | apply Kd.R_drewN | apply Kd.R_drew)); exact (Kd.R_mono (Kd.R_far (p := ⟨gb355, 1, none⟩) (Kd.R_far (p := ⟨gb355, 0, none⟩) (Kd.R_types HO349.out BK355.out (by decide)) (fun _ hk => hk.2) (.slice Ao40 t347.length co40)) (fun _ hk => hk.2) (.slice Ao45 t350.length co45)) (fun _ h_ => h_.1))) (by decide)) hk (fun _ h => h.2)) (fun _ h => h.1)); replace HO352 := Aside0.mk (Kd.R_mono (Kd.R_keep (IsS60.apart (show IsS60 w _ g346 t343 t353 t354 from inow HI346.out) (by (with_reducible repeat (first | apply Kd.R_alloc | apply Kd.R_drewN | apply Kd.R_drew)); exact (Kd.R_mono (Kd.R_far (p := ⟨gb355, 1, none⟩) (Kd.R_far (p := ⟨gb355, 0, none⟩) (Kd.R_types HO352.out BK355.out (by decide)) (fun _ hk => hk.2) (.slice Ao40 t347.length co40)) (fun _ hk => hk.2) (.slice Ao45 t350.length co45)) (fun _ h_ => h_.1))) (by decide)) hk (fun _ h => h.2)) (fun _ h => h.1)); replace BK355 := Aside0.mk (KeepBut.blk hk (g' := gb355) (o := .cells #[.slice Ao40 t347.length co40, .slice Ao45 t350.length co45] 26 (0, 0)) (by (with_reducible repeat (first | refine blk_drewN ?_ _ | refine blk_drew ?_ | refine blk_alloc ?_ _)); refine blk_put (cs := #[.slice Ao40 t347.length co40, .slice none 0 0]) ?_ 1 _ rfl; (with_reducible repeat (first | refine blk_drewN ?_ _ | refine blk_drew ?_ | refine blk_alloc ?_ _)); refine blk_put (cs := #[.slice none 0 0, .slice none 0 0]) ?_ 0 _ rfl; (with_reducible repeat (first | refine blk_drewN ?_ _ | refine blk_drew ?_ | refine blk_alloc ?_ _)); exact BK355.out) NB355_346.out (by simp)); replace HB := Aside0.mk (hb); replace HI346 := Aside0.mk (hi); (try clear hb); (try clear hb2); (try clear hk); (try clear hi)))
  have n0_ := Aside0.mk (Kd.R_drew HO349.out)
  have n1_ := Aside0.mk (Kd.R_drew HO352.out)
  have n2_ := Aside0.mk (blk_drew BK341.out)
  have n3_ := Aside0.mk (blk_drew BK342.out)
  have n4_ := Aside0.mk (blk_drew BK355.out)
  have n5_ := Aside0.mk (IsS60.drew HI346.out)
  have n6_ := Aside0.mk (below_drew1 HB.out)
  clear HO349
  clear HO352
  clear BK341
  clear BK342
  clear BK355
  clear HI346
  clear HB
  have HO349 := n0_
  have HO352 := n1_
  have BK341 := n2_
  have BK342 := n3_
  have BK355 := n4_
  have HI346 := n5_
  have HB := n6_
  clear n0_ n1_ n2_ n3_ n4_ n5_ n6_
  refine start_ (n := 5) (S := fun w' => w'.cell? ⟨gb355, 0, none⟩ = some (.slice Ao40 t347.length co40) ∧ w'.cell? ⟨gb355, 1, none⟩ = some (.slice Ao45 t350.length co45)) (ds := []) (tf 5 0) (by kernel_rfl) rfl rfl ⟨(blk_cell BK355.out 0).trans rfl, (blk_cell BK355.out 1).trans rfl⟩ (fun hHeld => ?_)
  generalize w46.drew = w47 at HO349 HO352 BK341 BK342 BK355 HI346 HB hHeld ⊢
  refine pure1 1 23 #[false, true, false, false, false] (by kernel_rfl) ?_
  refine take_ (i := 0) (N := some 22) (v := ?_) (a' := ?_) (tf 5 2) rfl rfl (by kernel_rfl) (fun _ _ _ h => h) (Or.inl ⟨by rfl, ?_⟩) hHeld ?_ ?_
  rotate_left
  ·rintro w' ⟨s0, s1⟩
   go_simp
   with_reducible rfl
  rotate_left
  ·simp only [Act.put, List.setIfInBounds_toArray, List.set_cons_zero, List.set_cons_succ, i64_w, i32_w]
   rfl
  refine one_ (i := 2) (N := some 24) (tf 5 3) rfl rfl (by kernel_rfl) (by decide) (fun K hK => ?_)
  refine goes_ Tryz.func30 (by kernel_rfl) rfl #[.pointer (some ⟨g346, 0, none⟩), .int .i64 7] (by rfl) rfl rfl lm ?_
  with_reducible refine (spec_l4Bent.calls k g346 t343 t357 t358 7 t371 t374 t377 t378 w _ ?side1 ?side2 A34.out).mono ?_
  (case side1 => exact inow HI346.out)
  (case side2 => exact bi HB.out)
  rintro e w48 ⟨v372, v375, rfl, ho0, ho1, hi, hb, hk⟩
  refine ⟨_, rfl, ?_⟩
  have n0_ := Aside0.mk (KeepBut.blk hk (g' := gb341) (o := .cells #[.slice none 0 0, .slice none 0 0] 26 (0, 0)) (bk BK341.out) NB341_346.out (by simp))
  have n1_ := Aside0.mk (KeepBut.blk hk (g' := gb342) (o := .cells #[.slice none 0 0, .slice none 0 0] 26 (0, 0)) (bk BK342.out) NB342_346.out (by simp))
  have n2_ := Aside0.mk (Kd.R_mono (Kd.R_told (Kd.R_told (Kd.R_oldK (IsS60.apart (show IsS60 w _ g346 t343 t357 t358 from inow HI346.out) (rk HO349.out) (by decide)) hk) (Kd.R_base ho0)) (Kd.R_base ho1)) (fun _ h_ => h_.1))
  have n3_ := Aside0.mk (Kd.R_mono (Kd.R_told (Kd.R_told (Kd.R_oldK (IsS60.apart (show IsS60 w _ g346 t343 t357 t358 from inow HI346.out) (rk HO352.out) (by decide)) hk) (Kd.R_base ho0)) (Kd.R_base ho1)) (fun _ h_ => h_.1))
  have n4_ := Aside0.mk (KeepBut.blk hk (g' := gb355) (o := .cells #[.slice Ao40 t347.length co40, .slice Ao45 t350.length co45] 26 (0, 0)) (bk BK355.out) NB355_346.out (by simp))
  have n5_ := Aside0.mk (Kd.R_lower (Kd.R_new' (Kd.R_new' ho0 (Kd.R_lt (rk HO349.out))) (Kd.R_lt (rk HO352.out))) (below_size (bi HB.out)))
  have n6_ := Aside0.mk (Kd.R_lower (Kd.R_new' (Kd.R_new' ho1 (Kd.R_lt (rk HO349.out))) (Kd.R_lt (rk HO352.out))) (below_size (bi HB.out)))
  have n7_ := Aside0.mk (hb)
  have n8_ := Aside0.mk (hi)
  clear BK341
  clear BK342
  clear HO349
  clear HO352
  clear BK355
  clear HB
  clear HI346
  have BK341 := n0_
  have BK342 := n1_
  have HO349 := n2_
  have HO352 := n3_
  have BK355 := n4_
  have HO373 := n5_
  have HO376 := n6_
  have HB := n7_
  have HI346 := n8_
  clear n0_ n1_ n2_ n3_ n4_ n5_ n6_ n7_ n8_
  (try clear hb)
  (try clear hb2)
  (try clear hk)
  (try clear hi)
  (try clear ho0)
  (try clear ho1)
  obtain ⟨Ao51, co51, eo51⟩ := Kd.R_slice HO373.out
  (first | subst eo51 | (injection eo51 with f1_ f2_ f3_; have f4_ := f1_.symm; have f5_ := f3_.symm; clear f1_ f2_ f3_; subst f4_; subst f5_))
  obtain ⟨Ao53, co53, eo53⟩ := Kd.R_slice HO376.out
  (first | subst eo53 | (injection eo53 with f1_ f2_ f3_; have f4_ := f1_.symm; have f5_ := f3_.symm; clear f1_ f2_ f3_; subst f4_; subst f5_))
  refine hK.out _ _ ⟨(blk_cell BK355.out 0).trans rfl, (blk_cell BK355.out 1).trans rfl⟩ (fun hHeld => ?_)
  clear hK K
  refine norm1 24 ?_
  refine one_ (i := 3) (N := none) (tf 5 4) rfl rfl (by kernel_rfl) (by decide) (fun K hK => ?_)
  have hs49 : w48.cell? ⟨gb341, 0, none⟩ = some (.slice none 0 0) := (blk_cell BK341.out 0).trans rfl
  have hfs49 := blk_frozen BK341.out 0
  have hns49_1 := NB342_341.out
  have hns49_2 := NB355_341.out
  have hms49_1 := NB341_342.out
  have hms49_2 := NB341_355.out
  have hs50 : w48.cell? ⟨gb341, 1, none⟩ = some (.slice none 0 0) := (blk_cell BK341.out 1).trans rfl
  have hfs50 := blk_frozen BK341.out 1
  have hns50_1 := NB342_341.out
  have hns50_2 := NB355_341.out
  have hms50_1 := NB341_342.out
  have hms50_2 := NB341_355.out
  refine skip_ (w1 := ?_) (by rfl) rfl ?_ ?_
  rotate_left
  ·go_simp
   rfl
  refine hK.out _ _ ⟨((cell_far (p := ⟨gb341, _, none⟩) NB355_341.out _).trans (((cell_far (p := ⟨gb341, _, none⟩) NB355_341.out _).trans (hHeld.1)))), ((cell_far (p := ⟨gb341, _, none⟩) NB355_341.out _).trans (((cell_far (p := ⟨gb341, _, none⟩) NB355_341.out _).trans (hHeld.2))))⟩ (fun hHeld => ?_)
  clear hK K
  refine one_ (i := 4) (N := none) (tf 5 5) rfl rfl (by kernel_rfl) (by decide) (fun K hK => ?_)
  have hs52 : w48.cell? ⟨gb342, 0, none⟩ = some (.slice none 0 0) := (blk_cell BK342.out 0).trans rfl
  have hfs52 := blk_frozen BK342.out 0
  have hns52_0 := NB341_342.out
  have hns52_2 := NB355_342.out
  have hms52_0 := NB342_341.out
  have hms52_2 := NB342_355.out
  have hs54 : w48.cell? ⟨gb342, 1, none⟩ = some (.slice none 0 0) := (blk_cell BK342.out 1).trans rfl
  have hfs54 := blk_frozen BK342.out 1
  have hns54_0 := NB341_342.out
  have hns54_2 := NB355_342.out
  have hms54_0 := NB342_341.out
  have hms54_2 := NB342_355.out
  refine skip_ (w1 := ?_) (by rfl) rfl ?_ ?_
  rotate_left
  ·go_simp
   rfl
  refine hK.out _ _ ⟨((cell_far (p := ⟨gb342, _, none⟩) NB355_342.out _).trans (((cell_far (p := ⟨gb342, _, none⟩) NB355_342.out _).trans (hHeld.1)))), ((cell_far (p := ⟨gb342, _, none⟩) NB355_342.out _).trans (((cell_far (p := ⟨gb342, _, none⟩) NB355_342.out _).trans (hHeld.2))))⟩ (fun hHeld => ?_)
  clear hK K
  refine done_ (by kernel_rfl) ?_
  try go_wp2
  refine bodyPost_ret (results_cc rfl _ _ gb341 gb342 26 26 #[.slice Ao40 t347.length co40, .slice Ao45 t350.length co45] #[.slice Ao51 t371.length co51, .slice Ao53 t374.length co53] (0, 0) (0, 0) _ _ rfl (by (with_reducible repeat (first | refine blk_drewN ?_ _ | refine blk_drew ?_ | refine blk_alloc ?_ _)); refine blk_far ?_ NB341_342.out _; (with_reducible repeat (first | refine blk_drewN ?_ _ | refine blk_drew ?_ | refine blk_alloc ?_ _)); refine blk_far ?_ NB341_342.out _; (with_reducible repeat (first | refine blk_drewN ?_ _ | refine blk_drew ?_ | refine blk_alloc ?_ _)); refine blk_put (cs := #[.slice Ao40 t347.length co40, .slice none 0 0]) ?_ 1 _ rfl; (with_reducible repeat (first | refine blk_drewN ?_ _ | refine blk_drew ?_ | refine blk_alloc ?_ _)); refine blk_put (cs := #[.slice none 0 0, .slice none 0 0]) ?_ 0 _ rfl; (with_reducible repeat (first | refine blk_drewN ?_ _ | refine blk_drew ?_ | refine blk_alloc ?_ _)); exact BK341.out) Tryz.underlying26 rfl (by kernel_rfl) rfl (by (with_reducible repeat (first | refine blk_drewN ?_ _ | refine blk_drew ?_ | refine blk_alloc ?_ _)); refine blk_put (cs := #[.slice Ao51 t371.length co51, .slice none 0 0]) ?_ 1 _ rfl; (with_reducible repeat (first | refine blk_drewN ?_ _ | refine blk_drew ?_ | refine blk_alloc ?_ _)); refine blk_put (cs := #[.slice none 0 0, .slice none 0 0]) ?_ 0 _ rfl; (with_reducible repeat (first | refine blk_drewN ?_ _ | refine blk_drew ?_ | refine blk_alloc ?_ _)); refine blk_far ?_ NB342_341.out _; (with_reducible repeat (first | refine blk_drewN ?_ _ | refine blk_drew ?_ | refine blk_alloc ?_ _)); refine blk_far ?_ NB342_341.out _; (with_reducible repeat (first | refine blk_drewN ?_ _ | refine blk_drew ?_ | refine blk_alloc ?_ _)); exact BK342.out) Tryz.underlying26 rfl (by kernel_rfl)) rfl ?_
  exact ⟨_, _, _, _, by first | rfl | (simp [errW_none, errW_some] <;> rfl) | (simp [*, errW_none, errW_some] <;> rfl), by (with_reducible repeat (first | apply Kd.R_alloc | apply Kd.R_drewN | apply Kd.R_drew)); exact Kd.R_mono (Kd.R_far (p := ⟨gb342, 1, none⟩) (Kd.R_far (p := ⟨gb342, 0, none⟩) (Kd.R_far (p := ⟨gb341, 1, none⟩) (Kd.R_far (p := ⟨gb341, 0, none⟩) (Kd.R_types (Kd.R_types HO349.out BK341.out (by decide)) BK342.out (by decide)) (fun _ hk => hk.1.2) (.slice Ao40 t347.length co40)) (fun _ hk => hk.1.2) (.slice Ao45 t350.length co45)) (fun _ hk => hk.2) (.slice Ao51 t371.length co51)) (fun _ hk => hk.2) (.slice Ao53 t374.length co53)) (fun _ hk => ⟨hk.1.1.1.1, ⟨hk.1.1.1.2, hk.1.1.2⟩⟩), by (with_reducible repeat (first | apply Kd.R_alloc | apply Kd.R_drewN | apply Kd.R_drew)); exact Kd.R_mono (Kd.R_far (p := ⟨gb342, 1, none⟩) (Kd.R_far (p := ⟨gb342, 0, none⟩) (Kd.R_far (p := ⟨gb341, 1, none⟩) (Kd.R_far (p := ⟨gb341, 0, none⟩) (Kd.R_types (Kd.R_types HO352.out BK341.out (by decide)) BK342.out (by decide)) (fun _ hk => hk.1.2) (.slice Ao40 t347.length co40)) (fun _ hk => hk.1.2) (.slice Ao45 t350.length co45)) (fun _ hk => hk.2) (.slice Ao51 t371.length co51)) (fun _ hk => hk.2) (.slice Ao53 t374.length co53)) (fun _ hk => ⟨hk.1.1.1.1, ⟨hk.1.1.1.2, hk.1.1.2⟩⟩), by (with_reducible repeat (first | apply Kd.R_alloc | apply Kd.R_drewN | apply Kd.R_drew)); exact Kd.R_mono (Kd.R_far (p := ⟨gb342, 1, none⟩) (Kd.R_far (p := ⟨gb342, 0, none⟩) (Kd.R_far (p := ⟨gb341, 1, none⟩) (Kd.R_far (p := ⟨gb341, 0, none⟩) (Kd.R_types (Kd.R_types HO373.out BK341.out (by decide)) BK342.out (by decide)) (fun _ hk => hk.1.2) (.slice Ao40 t347.length co40)) (fun _ hk => hk.1.2) (.slice Ao45 t350.length co45)) (fun _ hk => hk.2) (.slice Ao51 t371.length co51)) (fun _ hk => hk.2) (.slice Ao53 t374.length co53)) (fun _ hk => ⟨hk.1.1.1.2, ⟨hk.1.1.2, hk.1.1.1.1⟩⟩), by (with_reducible repeat (first | apply Kd.R_alloc | apply Kd.R_drewN | apply Kd.R_drew)); exact Kd.R_mono (Kd.R_far (p := ⟨gb342, 1, none⟩) (Kd.R_far (p := ⟨gb342, 0, none⟩) (Kd.R_far (p := ⟨gb341, 1, none⟩) (Kd.R_far (p := ⟨gb341, 0, none⟩) (Kd.R_types (Kd.R_types HO376.out BK341.out (by decide)) BK342.out (by decide)) (fun _ hk => hk.1.2) (.slice Ao40 t347.length co40)) (fun _ hk => hk.1.2) (.slice Ao45 t350.length co45)) (fun _ hk => hk.2) (.slice Ao51 t371.length co51)) (fun _ hk => hk.2) (.slice Ao53 t374.length co53)) (fun _ hk => ⟨hk.1.1.1.2, ⟨hk.1.1.2, hk.1.1.1.1⟩⟩), bi HB.out⟩

end Go.Proofs.YtkbomfpebhjaoaaGreatDoor.QFnShapes
