/- A text of this session's own program (wip/myprint.py): functions that the law FnShapes reaches, as plain Lean functions, each with the proof that the call does just that. No condition beyond those that each statement bears. -/
import Derived.Test.YtkbomfpebhjaoaaGreatDoorQFnShapesx0
import Derived.Test.YtkbomfpebhjaoaaGreatDoorQFnShapesx2
import Derived.Test.YtkbomfpebhjaoaaGreatDoorQFnShapesx3
import Derived.Test.YtkbomfpebhjaoaaGreatDoorQFnShapesx4
import Derived.Test.YtkbomfpebhjaoaaGreatDoorQFnShapesx7
import Derived.Test.YtkbomfpebhjaoaaGreatDoorQFnShapesx9
import Derived.Test.YtkbomfpebhjaoaaGreatDoorQFnShapesx10
namespace Go.Proofs.YtkbomfpebhjaoaaGreatDoor.QFnShapes
open Go.Proofs.YtkbomfpebhjaoaaGreatDoor.Short Go.RowKit Go.Proofs.YtkbomfpebhjaoaaGreatDoorW.PrintWords Go.Proofs.YtkbomfpebhjaoaaGreatDoorW.PrintLast Go.Proofs.YtkbomfpebhjaoaaGreatDoorW.PrintMore
attribute [local go_sem] max2_int min2_int max_two min_two max_three min_three max_four min_four   -- for this text's walks alone
set_option linter.unusedVariables false
set_option linter.unusedSimpArgs false

/-! ### spec_ParseShape: function 13 -/
def spec_ParseShape.j0 : Nat → ByteArray → List ByteArray → Bool → Bool → List Int → Option (List Int × List Int × Bool)
 | 0, _, _, _, _, _ => none
 | k + 1, x0, x4, x6, x30, x536000 => if x30 = true then (if 1 < (x4.length : Int) then ((spec_ParsePartition.f k (rdOf ByteArray.empty x4 1)).bind fun bt537 => (if bt537.2 = true then ((spec_ShapeText.f k x536000 bt537.1).bind fun t541 => (if t541.toList = x0.toList then (some (x536000, bt537.1, true)) else (some (([] : List Int), ([] : List Int), false)))) else (some (([] : List Int), ([] : List Int), false)))) else (none)) else (if x6 = true then ((spec_ShapeText.f k x536000 ([] : List Int)).bind fun t542 => (if t542.toList = x0.toList then (some (x536000, ([] : List Int), true)) else (some (([] : List Int), ([] : List Int), false)))) else (some (([] : List Int), ([] : List Int), false)))
def spec_ParseShape.f (k : Nat) (a0 : ByteArray) : Option (List Int × List Int × Bool) := (spec_SplitByte.f k a0 47).bind fun t527 => (if (t527.length : Int) > 2 then (some (([] : List Int), ([] : List Int), false)) else (if 0 < (t527.length : Int) then ((spec_ParsePartition.f k (rdOf ByteArray.empty t527 0)).bind fun bt531 => (if bt531.2 = true then (spec_ParseShape.j0 k a0 t527 bt531.2 ((t527.length : Int) == 2) bt531.1) else (spec_ParseShape.j0 k a0 t527 bt531.2 false bt531.1))) else (none)))
theorem spec_ParseShape.mono_l : ∀ k, (∀ y0 y1 y2 y3 y4, LeO (spec_ParseShape.j0 k y0 y1 y2 y3 y4) (spec_ParseShape.j0 (k + 1) y0 y1 y2 y3 y4))
 | 0 => fun _ _ _ _ _ r h => by simp [spec_ParseShape.j0] at h
 | k + 1 => by
  have ih0 := spec_ParseShape.mono_l k
  ·intro y0 y1 y2 y3 y4
   unfold spec_ParseShape.j0
   repeat' first
   | (with_reducible exact ih0 _ _ _ _ _)
   | (with_reducible exact spec_ParsePartition.mono _ _)
   | (with_reducible exact spec_ShapeText.mono _ _ _)
   | (with_reducible exact spec_SplitByte.mono _ _ _)
   | (with_reducible exact LeO.refl _)
   | (with_reducible exact LeO.none _)
   | (with_reducible refine LeO.ite ?_ ?_)
   | (with_reducible refine LeO.bind ?_ (fun _ => ?_))
   | exact ih0 _ _ _ _ _
   | exact spec_ParsePartition.mono _ _
   | exact spec_ShapeText.mono _ _ _
   | exact spec_SplitByte.mono _ _ _
   | exact LeO.none _
   | refine LeO.ite ?_ ?_
   | refine LeO.bind ?_ (fun _ => ?_)
theorem spec_ParseShape.mono : ∀ a0 k, LeO (spec_ParseShape.f k a0) (spec_ParseShape.f (k + 1) a0) := by
 intro a0 k
 have ih0 := spec_ParseShape.mono_l k
 unfold spec_ParseShape.f
 repeat' first
   | (with_reducible exact ih0 _ _ _ _ _)
   | (with_reducible exact spec_ParsePartition.mono _ _)
   | (with_reducible exact spec_ShapeText.mono _ _ _)
   | (with_reducible exact spec_SplitByte.mono _ _ _)
   | (with_reducible exact LeO.refl _)
   | (with_reducible exact LeO.none _)
   | (with_reducible refine LeO.ite ?_ ?_)
   | (with_reducible refine LeO.bind ?_ (fun _ => ?_))
   | exact ih0 _ _ _ _ _
   | exact spec_ParsePartition.mono _ _
   | exact spec_ShapeText.mono _ _ _
   | exact spec_SplitByte.mono _ _ _
   | exact LeO.none _
   | refine LeO.ite ?_ ?_
   | refine LeO.bind ?_ (fun _ => ?_)
set_option maxHeartbeats 8000000 in
set_option maxRecDepth 100000 in
theorem spec_ParseShape.calls (k : Nat) (a0 : ByteArray) (r1 : List Int) (r2 : List Int) (r3 : Bool) (w : World) (h : spec_ParseShape.f k a0 = some (r1, r2, r3)) :
  Calls Tryz.prog 13 #[.string a0] w fun e w' => ∃ v0_ v1_ : Value, e = .returned (.tuple #[.agg #[v0_, v1_], .bool r3]) ∧ Kd.R (Kd.int .i64) 3 w' w.heap.size (fun k_ => some k_ ≠ (v1_ : Value).ownBlock) v0_ r1 ∧ Kd.R (Kd.int .i64) 3 w' w.heap.size (fun k_ => some k_ ≠ (v0_ : Value).ownBlock) v1_ r2 ∧ Below w.heap.size w w' := by
 have hu26 := Tryz.underlying26
 have HB := Aside0.mk (Below.refl w.heap.size w)
 have H : ((spec_SplitByte.f k a0 47).bind fun t527 => (if (t527.length : Int) > 2 then (some (([] : List Int), ([] : List Int), false)) else (if 0 < (t527.length : Int) then ((spec_ParsePartition.f k (rdOf ByteArray.empty t527 0)).bind fun bt531 => (if bt531.2 = true then (spec_ParseShape.j0 k a0 t527 bt531.2 ((t527.length : Int) == 2) bt531.1) else (spec_ParseShape.j0 k a0 t527 bt531.2 false bt531.1))) else (none)))) = some (r1, r2, r3) := h
 clear h
 replace H := Option.bind_eq_some_iff.mp H
 obtain ⟨t527, A20, H⟩ := H
 replace H : (if (t527.length : Int) > 2 then (some (([] : List Int), ([] : List Int), false)) else (if 0 < (t527.length : Int) then ((spec_ParsePartition.f k (rdOf ByteArray.empty t527 0)).bind fun bt531 => (if bt531.2 = true then (spec_ParseShape.j0 k a0 t527 bt531.2 ((t527.length : Int) == 2) bt531.1) else (spec_ParseShape.j0 k a0 t527 bt531.2 false bt531.1))) else (none))) = some (r1, r2, r3) := H
 have A2 := Aside0.mk A20
 clear A20
 by_cases c3 : (t527.length : Int) > 2
 ·rw [if_pos c3] at H
  have c3b0 : decide (2 < (t527.length : Int)) = true := decide_eq_true c3
  have c3b1 : decide (2 < t527.length) = true := decide_eq_true (by omega)
  clear c3
  simp only [Option.some.injEq, Prod.mk.injEq] at H
  obtain ⟨rfl, rfl, rfl⟩ := H
  go_enter Tryz.func13, Tryz.ntmps13
  go_wp2_with (first | ((with_reducible refine gate_dst (N := 2) rfl ?_); (try (refine gate_guard (by rfl) ?_; dsimp only)); refine box_event ?hg (N := 2) ?hd (cs := #[.slice none 0 0, .slice none 0 0]) (t := 26) ?hr ?_; (case hd => rfl); (case hg => rfl); (case hr => first | (go_simp; done) | (go_simp; rfl)); intro gb526 hg w4 hbox hb; have BK526 := Aside0.mk (hbox); have GW526 := Aside0.mk ((by rw [hg]; exact (below_size bnow) : w.heap.size ≤ gb526)); have GE526 := Aside0.mk ((by rw [hg]; exact (below_size bnow) : w.heap.size ≤ gb526)); replace HB := Aside0.mk (below_step bnow hb); clear hb hbox hg) | ((with_reducible refine gate_callee (f := 40) rfl ?_); refine goesL_ (some 11) rfl rfl Tryz.func40 (by kernel_rfl) rfl #[.string a0, .int .u8 47] rfl lm ?_; (with_reducible refine (spec_SplitByte.calls k a0 47 t527 _ A2.out).mono ?_); rintro e w5 ⟨v528, rfl, ho0, hb⟩; refine ⟨_, rfl, ?_⟩; have HO529 := Aside0.mk (Kd.R_lower ho0 (below_size (bn HB.out))); replace BK526 := Aside0.mk (blk_below (bk BK526.out) hb); replace HB := Aside0.mk (below_step (bn HB.out) hb); (try clear hb); (try clear hb2); (try clear hk); (try clear hi); (try clear ho0); obtain ⟨Ao6, co6, eo6⟩ := Kd.R_slice HO529.out; subst eo6; have hcz7_0 : w5.cell? ⟨gb526, 0, none⟩ = some (.slice none 0 0) := (blk_cell BK526.out 0).trans rfl; have hcz7_1 : w5.cell? ⟨gb526, 1, none⟩ = some (.slice none 0 0) := (blk_cell BK526.out 1).trans rfl; have hfz7_0 := blk_frozen BK526.out 0; have hfz7_1 := blk_frozen BK526.out 1))
  refine bodyPost_ret (results_ct rfl _ _ gb526 26 #[.slice none 0 0, .slice none 0 0] (0, 0) _ rfl (by (with_reducible repeat (first | refine blk_drewN ?_ _ | refine blk_drew ?_ | refine blk_alloc ?_ _)); refine blk_put (cs := #[.slice none 0 0, .slice none 0 0]) ?_ 1 _ rfl; (with_reducible repeat (first | refine blk_drewN ?_ _ | refine blk_drew ?_ | refine blk_alloc ?_ _)); refine blk_put (cs := #[.slice none 0 0, .slice none 0 0]) ?_ 0 _ rfl; (with_reducible repeat (first | refine blk_drewN ?_ _ | refine blk_drew ?_ | refine blk_alloc ?_ _)); exact BK526.out) Tryz.underlying26 rfl (by kernel_rfl)) rfl ?_
  exact ⟨_, _, by first | rfl | (simp [errW_none, errW_some] <;> rfl) | (simp [*, errW_none, errW_some] <;> rfl), by first | exact Kd.R_nil _ _ _ _ _ | exact Kd.N_nil _ _ _ _ _ | exact Kd.V_nil _ _ _ _ _ | exact Kd.Q_nil _ _ _ _ _ | exact Kd.S_nil _ _ _ _ _, by first | exact Kd.R_nil _ _ _ _ _ | exact Kd.N_nil _ _ _ _ _ | exact Kd.V_nil _ _ _ _ _ | exact Kd.Q_nil _ _ _ _ _ | exact Kd.S_nil _ _ _ _ _, bn HB.out⟩
 ·rw [if_neg c3] at H
  have c3b0 : decide (2 < (t527.length : Int)) = false := decide_eq_false c3
  have c3b1 : decide (2 < t527.length) = false := decide_eq_false (by omega)
  clear c3
  by_cases c8 : 0 < (t527.length : Int)
  ·rw [if_pos c8] at H
   have c8b0 : decide (0 < (t527.length : Int)) = true := decide_eq_true c8
   have c8b1 : decide (0 < t527.length) = true := decide_eq_true (by omega)
   clear c8
   replace H := Option.bind_eq_some_iff.mp H
   obtain ⟨⟨t531, t532⟩, A90, H⟩ := H
   replace H : (if t532 = true then (spec_ParseShape.j0 k a0 t527 t532 ((t527.length : Int) == 2) t531) else (spec_ParseShape.j0 k a0 t527 t532 false t531)) = some (r1, r2, r3) := H
   have A9 := Aside0.mk A90
   clear A90
   have HC10 := Aside0.mk H
   clear H
   go_enter Tryz.func13, Tryz.ntmps13
   go_upto_region 6 with (first | ((with_reducible refine gate_dst (N := 2) rfl ?_); (try (refine gate_guard (by rfl) ?_; dsimp only)); refine box_event ?hg (N := 2) ?hd (cs := #[.slice none 0 0, .slice none 0 0]) (t := 26) ?hr ?_; (case hd => rfl); (case hg => rfl); (case hr => first | (go_simp; done) | (go_simp; rfl)); intro gb526 hg w11 hbox hb; have BK526 := Aside0.mk (hbox); have GW526 := Aside0.mk ((by rw [hg]; exact (below_size bnow) : w.heap.size ≤ gb526)); have GE526 := Aside0.mk ((by rw [hg]; exact (below_size bnow) : w.heap.size ≤ gb526)); replace HB := Aside0.mk (below_step bnow hb); clear hb hbox hg) | ((with_reducible refine gate_callee (f := 40) rfl ?_); refine goesL_ (some 11) rfl rfl Tryz.func40 (by kernel_rfl) rfl #[.string a0, .int .u8 47] rfl lm ?_; (with_reducible refine (spec_SplitByte.calls k a0 47 t527 _ A2.out).mono ?_); rintro e w12 ⟨v528, rfl, ho0, hb⟩; refine ⟨_, rfl, ?_⟩; have HO529 := Aside0.mk (Kd.R_lower ho0 (below_size (bn HB.out))); replace BK526 := Aside0.mk (blk_below (bk BK526.out) hb); replace HB := Aside0.mk (below_step (bn HB.out) hb); (try clear hb); (try clear hb2); (try clear hk); (try clear hi); (try clear ho0); obtain ⟨Ao13, co13, eo13⟩ := Kd.R_slice HO529.out; subst eo13; have p530 : 0 ≤ (0 : Int) := (by omega); have q530 : 0 < (t527.length : Int) := of_decide_eq_true asm; obtain ⟨ad530, e530, hx530_0⟩ := Kd.at_string (Kd.R_reads' HO529.out).2.2 0 p530 q530; cases e530; have qi530 : (0 < t527.length) = True := eq_true (by omega); (try rw [show ((0 : Int)).toNat = 0 from rfl] at hx530_0); (try rw [Addr.add_zero'] at hx530_0); replace p530 := eq_true p530; replace q530 := eq_true q530) | ((with_reducible refine gate_callee (f := 41) rfl ?_); refine goesL_ (some 20) rfl rfl Tryz.func41 (by kernel_rfl) rfl #[.string (rdOf ByteArray.empty t527 0)] rfl lm ?_; (with_reducible refine (spec_ParsePartition.calls k (rdOf ByteArray.empty t527 0) t531 t532 _ A9.out).mono ?_); rintro e w14 ⟨v533, rfl, ho0, hb⟩; refine ⟨_, rfl, ?_⟩; replace HO529 := Aside0.mk (Kd.R_below (rk HO529.out) hb); have HO534 := Aside0.mk (Kd.R_lower ho0 (below_size (bn HB.out))); replace BK526 := Aside0.mk (blk_below (bk BK526.out) hb); replace HB := Aside0.mk (below_step (bn HB.out) hb); (try clear hb); (try clear hb2); (try clear hk); (try clear hi); (try clear ho0); obtain ⟨Ao15, co15, eo15⟩ := Kd.R_slice HO534.out; subst eo15) | ((with_reducible refine gate_dst (N := 7) rfl ?_); (try (refine gate_guard (by rfl) ?_; dsimp only)); refine box_event ?hg (N := 7) ?hd (cs := #[.slice none 0 0, .slice none 0 0]) (t := 26) ?hr ?_; (case hd => rfl); (case hg => rfl); (case hr => first | (go_simp; done) | (go_simp; rfl)); intro gb535 hg w16 hbox hb; replace HO529 := Aside0.mk (Kd.R_below (rk HO529.out) hb); replace HO534 := Aside0.mk (Kd.R_below (rk HO534.out) hb); have BK535 := Aside0.mk (hbox); have GW535 := Aside0.mk ((by rw [hg]; exact (below_size (bn HB.out)) : w.heap.size ≤ gb535)); have GE535 := Aside0.mk ((by rw [hg]; exact (below_size (bn HB.out)) : w.heap.size ≤ gb535)); replace HB := Aside0.mk (below_step (bn HB.out) hb); have NB526_535 := Aside0.mk ((by rw [hg]; exact Nat.ne_of_lt (blk_lt (g := gb526) (o := .cells #[.slice none 0 0, .slice none 0 0] 26 (0, 0)) (bk BK526.out)) : gb526 ≠ gb535)); have NB535_526 := Aside0.mk ((by rw [hg]; exact Nat.ne_of_gt (blk_lt (g := gb526) (o := .cells #[.slice none 0 0, .slice none 0 0] 26 (0, 0)) (bk BK526.out)) : gb535 ≠ gb526)); replace BK526 := Aside0.mk (blk_below (bk BK526.out) hb); clear hb hbox hg; have hnb17 := NB535_526.out; have hnc17 := NB526_535.out; have hcz18_0 : w16.cell? ⟨gb535, 0, none⟩ = some (.slice none 0 0) := (blk_cell BK535.out 0).trans rfl; have hcz18_1 : w16.cell? ⟨gb535, 1, none⟩ = some (.slice none 0 0) := (blk_cell BK535.out 1).trans rfl; have hfz18_0 := blk_frozen BK535.out 0; have hfz18_1 := blk_frozen BK535.out 1))
   (try simp only [Act.put, List.setIfInBounds_toArray, List.set_cons_zero, List.set_cons_succ])
   go_cut [30] (fun v30 wc => ∃ (kq : Nat) (x30_9 : Bool), v30 = .bool x30_9 ∧ Aside0 (spec_ParseShape.j0 kq a0 t527 t532 x30_9 t531 = some (r1, r2, r3)) ∧ Aside0 (kq ≤ k) ∧ Aside0 (Kd.R Kd.string 9 wc w.heap.size (fun _ => True) (.slice (some ad530) t527.length co13) t527) ∧ Aside0 (Kd.R (Kd.int .i64) 3 wc w.heap.size (fun _ => True) (.slice Ao15 t531.length co15) t531) ∧ Aside0 (wc.heap[gb526]? = some (.cells #[(.slice none 0 0), (.slice none 0 0)] 26 (0, 0))) ∧ Aside0 (wc.heap[gb535]? = some (.cells #[(.slice Ao15 t531.length co15), (.slice none 0 0)] 26 (0, 0))) ∧ Aside0 (Below w.heap.size w wc))
   case first =>
    have H := HC10.out
    clear HC10
    by_cases c19 : t532 = true
    ·subst c19
     have H1 : (spec_ParseShape.j0 k a0 t527 true ((t527.length : Int) == 2) t531) = some (r1, r2, r3) := by rw [if_pos rfl] at H; exact H
     clear H
     have H := H1
     clear H1
     have H' := Aside0.mk H
     clear H
     go_wp2
     go_meet
     case rel => exact ⟨_, (((t527.length : Int) == 2)), (by first | rfl | (simp; done) | (simp [*]; done)), H', ⟨by first | omega | exact Nat.le_refl _⟩, ⟨by (with_reducible repeat (first | apply Kd.R_alloc | apply Kd.R_drewN | apply Kd.R_drew)); exact Kd.R_mono (Kd.R_far (p := ⟨gb535, 1, none⟩) (Kd.R_far (p := ⟨gb535, 0, none⟩) (Kd.R_types HO529.out BK535.out (by decide)) (fun _ hk => hk.2) (.slice Ao15 t531.length co15)) (fun _ hk => hk.2) (.slice none 0 0)) (fun _ hk => trivial)⟩, ⟨by (with_reducible repeat (first | apply Kd.R_alloc | apply Kd.R_drewN | apply Kd.R_drew)); exact Kd.R_mono (Kd.R_far (p := ⟨gb535, 1, none⟩) (Kd.R_far (p := ⟨gb535, 0, none⟩) (Kd.R_types HO534.out BK535.out (by decide)) (fun _ hk => hk.2) (.slice Ao15 t531.length co15)) (fun _ hk => hk.2) (.slice none 0 0)) (fun _ hk => trivial)⟩, ⟨by (with_reducible repeat (first | refine blk_drewN ?_ _ | refine blk_drew ?_ | refine blk_alloc ?_ _)); refine blk_far ?_ NB526_535.out _; (with_reducible repeat (first | refine blk_drewN ?_ _ | refine blk_drew ?_ | refine blk_alloc ?_ _)); refine blk_far ?_ NB526_535.out _; (with_reducible repeat (first | refine blk_drewN ?_ _ | refine blk_drew ?_ | refine blk_alloc ?_ _)); exact BK526.out⟩, ⟨by (with_reducible repeat (first | refine blk_drewN ?_ _ | refine blk_drew ?_ | refine blk_alloc ?_ _)); refine blk_put (cs := #[.slice Ao15 t531.length co15, .slice none 0 0]) ?_ 1 _ rfl; (with_reducible repeat (first | refine blk_drewN ?_ _ | refine blk_drew ?_ | refine blk_alloc ?_ _)); refine blk_put (cs := #[.slice none 0 0, .slice none 0 0]) ?_ 0 _ rfl; (with_reducible repeat (first | refine blk_drewN ?_ _ | refine blk_drew ?_ | refine blk_alloc ?_ _)); exact BK535.out⟩, ⟨bn HB.out⟩⟩
    ·replace c19 := Bool.eq_false_iff.mpr c19
     subst c19
     have H1 : (spec_ParseShape.j0 k a0 t527 false false t531) = some (r1, r2, r3) := by rw [if_neg (show ¬ (false = true) by decide)] at H; exact H
     clear H
     have H := H1
     clear H1
     have H' := Aside0.mk H
     clear H
     go_wp2
     go_meet
     case rel => exact ⟨_, (false), (by first | rfl | (simp; done) | (simp [*]; done)), H', ⟨by first | omega | exact Nat.le_refl _⟩, ⟨by (with_reducible repeat (first | apply Kd.R_alloc | apply Kd.R_drewN | apply Kd.R_drew)); exact Kd.R_mono (Kd.R_far (p := ⟨gb535, 1, none⟩) (Kd.R_far (p := ⟨gb535, 0, none⟩) (Kd.R_types HO529.out BK535.out (by decide)) (fun _ hk => hk.2) (.slice Ao15 t531.length co15)) (fun _ hk => hk.2) (.slice none 0 0)) (fun _ hk => trivial)⟩, ⟨by (with_reducible repeat (first | apply Kd.R_alloc | apply Kd.R_drewN | apply Kd.R_drew)); exact Kd.R_mono (Kd.R_far (p := ⟨gb535, 1, none⟩) (Kd.R_far (p := ⟨gb535, 0, none⟩) (Kd.R_types HO534.out BK535.out (by decide)) (fun _ hk => hk.2) (.slice Ao15 t531.length co15)) (fun _ hk => hk.2) (.slice none 0 0)) (fun _ hk => trivial)⟩, ⟨by (with_reducible repeat (first | refine blk_drewN ?_ _ | refine blk_drew ?_ | refine blk_alloc ?_ _)); refine blk_far ?_ NB526_535.out _; (with_reducible repeat (first | refine blk_drewN ?_ _ | refine blk_drew ?_ | refine blk_alloc ?_ _)); refine blk_far ?_ NB526_535.out _; (with_reducible repeat (first | refine blk_drewN ?_ _ | refine blk_drew ?_ | refine blk_alloc ?_ _)); exact BK526.out⟩, ⟨by (with_reducible repeat (first | refine blk_drewN ?_ _ | refine blk_drew ?_ | refine blk_alloc ?_ _)); refine blk_put (cs := #[.slice Ao15 t531.length co15, .slice none 0 0]) ?_ 1 _ rfl; (with_reducible repeat (first | refine blk_drewN ?_ _ | refine blk_drew ?_ | refine blk_alloc ?_ _)); refine blk_put (cs := #[.slice none 0 0, .slice none 0 0]) ?_ 0 _ rfl; (with_reducible repeat (first | refine blk_drewN ?_ _ | refine blk_drew ?_ | refine blk_alloc ?_ _)); exact BK535.out⟩, ⟨bn HB.out⟩⟩
   case rest =>
    clear HC10
    try clear c1
    try clear p2
    try clear c3
    try clear c3b0
    try clear c3b1
    try clear c4
    try clear p5
    try clear q5
    try clear hx5
    try clear qi5
    try clear c8
    try clear c8b0
    try clear c8b1
    try clear c13
    try clear c17
    try clear c19
    try clear hcz18_0
    try clear hcz18_1
    try clear hcz7_0
    try clear hcz7_1
    try clear hfz18_0
    try clear hfz18_1
    try clear hfz7_0
    try clear hfz7_1
    try clear hx530_0
    try clear p530
    try clear q530
    obtain ⟨kq, x30_9, rfl, HA, HJ9, HO_4, HO_536000, BK526, BK535, HB⟩ := hcut
    cases kq with
    | zero => exact absurd HA.out (by simp [spec_ParseShape.j0])
    | succ kj9 =>
     have H := HA.out
     clear HA
     simp only [spec_ParseShape.j0] at H
     by_cases c20 : x30_9 = true
     ·subst c20
      have H1 : (if 1 < (t527.length : Int) then ((spec_ParsePartition.f kj9 (rdOf ByteArray.empty t527 1)).bind fun bt537 => (if bt537.2 = true then ((spec_ShapeText.f kj9 t531 bt537.1).bind fun t541 => (if t541.toList = a0.toList then (some (t531, bt537.1, true)) else (some (([] : List Int), ([] : List Int), false)))) else (some (([] : List Int), ([] : List Int), false)))) else (none)) = some (r1, r2, r3) := by rw [if_pos rfl] at H; exact H
      clear H
      have H := H1
      clear H1
      by_cases c21 : 1 < (t527.length : Int)
      ·rw [if_pos c21] at H
       have c21b0 : decide (1 < (t527.length : Int)) = true := decide_eq_true c21
       have c21b1 : decide (1 < t527.length) = true := decide_eq_true (by omega)
       clear c21
       replace H := Option.bind_eq_some_iff.mp H
       obtain ⟨⟨t537, t538⟩, A220, H⟩ := H
       replace H : (if t538 = true then ((spec_ShapeText.f kj9 t531 t537).bind fun t541 => (if t541.toList = a0.toList then (some (t531, t537, true)) else (some (([] : List Int), ([] : List Int), false)))) else (some (([] : List Int), ([] : List Int), false))) = some (r1, r2, r3) := H
       have A22 := Aside0.mk A220
       clear A220
       by_cases c23 : t538 = true
       ·subst c23
        have H1 : ((spec_ShapeText.f kj9 t531 t537).bind fun t541 => (if t541.toList = a0.toList then (some (t531, t537, true)) else (some (([] : List Int), ([] : List Int), false)))) = some (r1, r2, r3) := by rw [if_pos rfl] at H; exact H
        clear H
        have H := H1
        clear H1
        replace H := Option.bind_eq_some_iff.mp H
        obtain ⟨t541, A240, H⟩ := H
        replace H : (if t541.toList = a0.toList then (some (t531, t537, true)) else (some (([] : List Int), ([] : List Int), false))) = some (r1, r2, r3) := H
        have A24 := Aside0.mk A240
        clear A240
        by_cases c25 : t541.toList = a0.toList
        ·rw [if_pos c25] at H
         have c25b0 : (t541.toList == a0.toList) = true := beq_iff_eq.mpr c25
         have c25b1 : (t541.toList != a0.toList) = false := bne_eq_false_iff_eq.mpr c25
         clear c25
         simp only [Option.some.injEq, Prod.mk.injEq] at H
         obtain ⟨rfl, rfl, rfl⟩ := H
         have p536 : 0 ≤ (1 : Int) := (by omega)
         have q536 : 1 < (t527.length : Int) := of_decide_eq_true asm
         obtain ⟨ad536, e536, hx536_0⟩ := Kd.at_string (Kd.R_reads' HO_4.out).2.2 1 p536 q536
         obtain rfl : ad530 = ad536 := (by injection e536)
         (try simp only [show (1 : Int).toNat = 1 from rfl, Nat.reduceMul, Nat.reduceEqDiff, Go.Addr.add, ↓reduceIte] at hx536_0)
         have qi536 : (1 < t527.length) = True := eq_true (by omega)
         (try rw [show ((1 : Int)).toNat = 1 from rfl] at hx536_0)
         replace p536 := eq_true p536
         replace q536 := eq_true q536
         go_wp2_with (first | ((with_reducible refine gate_callee (f := 41) rfl ?_); refine goesL_ (some 35) rfl rfl Tryz.func41 (by kernel_rfl) rfl #[.string (rdOf ByteArray.empty t527 1)] rfl lm ?_; (with_reducible refine (spec_ParsePartition.calls kj9 (rdOf ByteArray.empty t527 1) t537 true _ A22.out).mono ?_); rintro e w26 ⟨v539, rfl, ho0, hb⟩; refine ⟨_, rfl, ?_⟩; replace HO_4 := Aside0.mk (Kd.R_below (rk HO_4.out) hb); have HO540 := Aside0.mk (Kd.R_lower (Kd.R_new' ho0 (Kd.R_lt (rk HO_536000.out))) (below_size (bn HB.out))); replace HO_536000 := Aside0.mk (Kd.R_elder' (rk HO_536000.out) (Kd.R_base ho0) hb); replace BK526 := Aside0.mk (blk_below (bk BK526.out) hb); replace BK535 := Aside0.mk (blk_below (bk BK535.out) hb); replace HB := Aside0.mk (below_step (bn HB.out) hb); (try clear hb); (try clear hb2); (try clear hk); (try clear hi); (try clear ho0); obtain ⟨Ao27, co27, eo27⟩ := Kd.R_slice HO540.out; subst eo27; have hnb28 := NB535_526.out; have hnc28 := NB526_535.out; have hcz29_0 : w26.cell? ⟨gb535, 0, none⟩ = some (.slice Ao15 t531.length co15) := (blk_cell BK535.out 0).trans rfl; have hcz29_1 : w26.cell? ⟨gb535, 1, none⟩ = some (.slice none 0 0) := (blk_cell BK535.out 1).trans rfl; have hfz29_0 := blk_frozen BK535.out 0; have hfz29_1 := blk_frozen BK535.out 1) | (go_at_call 29; (with_reducible refine (spec_ShapeText.calls kj9 _ _ t531 _ _ t537 t541 _ ?side1 ?side2 ?side3 ?side4 A24.out).mono ?_); (case side1 => refine (Kd.R_reads' (e := 3) (base := w.heap.size) (ok := fun k_ => (True ∧ some k_ ≠ (.slice Ao27 t537.length co27 : Value).ownBlock)) (n := t531.length) (c := co15) ?_).2.2; exact (by (with_reducible repeat (first | apply Kd.R_alloc | apply Kd.R_drewN | apply Kd.R_drew)); exact (Kd.R_mono (Kd.R_far (p := ⟨gb535, 1, none⟩) (Kd.R_types HO_536000.out BK535.out (by decide)) (fun _ hk => hk.2) (.slice Ao27 t537.length co27)) (fun _ h_ => h_.1)))); (case side2 => exact (Kd.R_reads' HO_536000.out).2.1); (case side3 => refine (Kd.R_reads' (e := 3) (base := w.heap.size) (ok := fun k_ => (True ∧ some k_ ≠ (.slice Ao15 t531.length co15 : Value).ownBlock)) (n := t537.length) (c := co27) ?_).2.2; exact (by (with_reducible repeat (first | apply Kd.R_alloc | apply Kd.R_drewN | apply Kd.R_drew)); exact (Kd.R_mono (Kd.R_far (p := ⟨gb535, 1, none⟩) (Kd.R_types HO540.out BK535.out (by decide)) (fun _ hk => hk.2) (.slice Ao27 t537.length co27)) (fun _ h_ => h_.1)))); (case side4 => exact (Kd.R_reads' HO540.out).2.1); rintro e w30 ⟨rfl, hb⟩; replace HO_4 := Aside0.mk (Kd.R_below (by (with_reducible repeat (first | apply Kd.R_alloc | apply Kd.R_drewN | apply Kd.R_drew)); exact (Kd.R_mono (Kd.R_far (p := ⟨gb535, 1, none⟩) (Kd.R_types HO_4.out BK535.out (by decide)) (fun _ hk => hk.2) (.slice Ao27 t537.length co27)) (fun _ h_ => h_.1))) hb); replace HO_536000 := Aside0.mk (Kd.R_below (by (with_reducible repeat (first | apply Kd.R_alloc | apply Kd.R_drewN | apply Kd.R_drew)); exact (Kd.R_mono (Kd.R_far (p := ⟨gb535, 1, none⟩) (Kd.R_types HO_536000.out BK535.out (by decide)) (fun _ hk => hk.2) (.slice Ao27 t537.length co27)) (fun _ h_ => h_.1))) hb); replace HO540 := Aside0.mk (Kd.R_below (by (with_reducible repeat (first | apply Kd.R_alloc | apply Kd.R_drewN | apply Kd.R_drew)); exact (Kd.R_mono (Kd.R_far (p := ⟨gb535, 1, none⟩) (Kd.R_types HO540.out BK535.out (by decide)) (fun _ hk => hk.2) (.slice Ao27 t537.length co27)) (fun _ h_ => h_.1))) hb); replace BK526 := Aside0.mk (blk_below (g := gb526) (o := .cells #[.slice none 0 0, .slice none 0 0] 26 (0, 0)) (by (with_reducible repeat (first | refine blk_drewN ?_ _ | refine blk_drew ?_ | refine blk_alloc ?_ _)); refine blk_far ?_ NB526_535.out _; (with_reducible repeat (first | refine blk_drewN ?_ _ | refine blk_drew ?_ | refine blk_alloc ?_ _)); exact BK526.out) hb); replace BK535 := Aside0.mk (blk_below (g := gb535) (o := .cells #[.slice Ao15 t531.length co15, .slice Ao27 t537.length co27] 26 (0, 0)) (by (with_reducible repeat (first | refine blk_drewN ?_ _ | refine blk_drew ?_ | refine blk_alloc ?_ _)); refine blk_put (cs := #[.slice Ao15 t531.length co15, .slice none 0 0]) ?_ 1 _ rfl; (with_reducible repeat (first | refine blk_drewN ?_ _ | refine blk_drew ?_ | refine blk_alloc ?_ _)); exact BK535.out) hb); replace HB := Aside0.mk (below_step (bn HB.out) hb); (try clear hb); (try clear hb2); (try clear hk); (try clear hi); have hcz31_0 : w30.cell? ⟨gb535, 0, none⟩ = some (.slice Ao15 t531.length co15) := (blk_cell BK535.out 0).trans rfl; have hcz31_1 : w30.cell? ⟨gb535, 1, none⟩ = some (.slice Ao27 t537.length co27) := (blk_cell BK535.out 1).trans rfl; have hfz31_0 := blk_frozen BK535.out 0; have hfz31_1 := blk_frozen BK535.out 1; have hcz32_0 : w30.cell? ⟨gb526, 0, none⟩ = some (.slice none 0 0) := (blk_cell BK526.out 0).trans rfl; have hcz32_1 : w30.cell? ⟨gb526, 1, none⟩ = some (.slice none 0 0) := (blk_cell BK526.out 1).trans rfl; have hfz32_0 := blk_frozen BK526.out 0; have hfz32_1 := blk_frozen BK526.out 1))
         refine bodyPost_ret (results_ct rfl _ _ gb526 26 #[.slice Ao15 t531.length co15, .slice Ao27 t537.length co27] (0, 0) _ rfl (by (with_reducible repeat (first | refine blk_drewN ?_ _ | refine blk_drew ?_ | refine blk_alloc ?_ _)); refine blk_put (cs := #[.slice Ao15 t531.length co15, .slice none 0 0]) ?_ 1 _ rfl; (with_reducible repeat (first | refine blk_drewN ?_ _ | refine blk_drew ?_ | refine blk_alloc ?_ _)); refine blk_put (cs := #[.slice none 0 0, .slice none 0 0]) ?_ 0 _ rfl; (with_reducible repeat (first | refine blk_drewN ?_ _ | refine blk_drew ?_ | refine blk_alloc ?_ _)); exact BK526.out) Tryz.underlying26 rfl (by kernel_rfl)) rfl ?_
         exact ⟨_, _, by first | rfl | (simp [errW_none, errW_some] <;> rfl) | (simp [*, errW_none, errW_some] <;> rfl), by (with_reducible repeat (first | apply Kd.R_alloc | apply Kd.R_drewN | apply Kd.R_drew)); exact Kd.R_mono (Kd.R_far (p := ⟨gb526, 1, none⟩) (Kd.R_far (p := ⟨gb526, 0, none⟩) (Kd.R_types HO_536000.out BK526.out (by decide)) (fun _ hk => hk.2) (.slice Ao15 t531.length co15)) (fun _ hk => hk.2) (.slice Ao27 t537.length co27)) (fun _ hk => hk.1.2), by (with_reducible repeat (first | apply Kd.R_alloc | apply Kd.R_drewN | apply Kd.R_drew)); exact Kd.R_mono (Kd.R_far (p := ⟨gb526, 1, none⟩) (Kd.R_far (p := ⟨gb526, 0, none⟩) (Kd.R_types HO540.out BK526.out (by decide)) (fun _ hk => hk.2) (.slice Ao15 t531.length co15)) (fun _ hk => hk.2) (.slice Ao27 t537.length co27)) (fun _ hk => hk.1.2), bn HB.out⟩
        ·rw [if_neg c25] at H
         have c25b0 : (t541.toList == a0.toList) = false := beq_eq_false_iff_ne.mpr c25
         have c25b1 : (t541.toList != a0.toList) = true := bne_iff_ne.mpr c25
         simp only [Option.some.injEq, Prod.mk.injEq] at H
         obtain ⟨rfl, rfl, rfl⟩ := H
         have p536 : 0 ≤ (1 : Int) := (by omega)
         have q536 : 1 < (t527.length : Int) := of_decide_eq_true asm
         obtain ⟨ad536, e536, hx536_0⟩ := Kd.at_string (Kd.R_reads' HO_4.out).2.2 1 p536 q536
         obtain rfl : ad530 = ad536 := (by injection e536)
         (try simp only [show (1 : Int).toNat = 1 from rfl, Nat.reduceMul, Nat.reduceEqDiff, Go.Addr.add, ↓reduceIte] at hx536_0)
         have qi536 : (1 < t527.length) = True := eq_true (by omega)
         (try rw [show ((1 : Int)).toNat = 1 from rfl] at hx536_0)
         replace p536 := eq_true p536
         replace q536 := eq_true q536
         go_wp2_with (first | ((with_reducible refine gate_callee (f := 41) rfl ?_); refine goesL_ (some 35) rfl rfl Tryz.func41 (by kernel_rfl) rfl #[.string (rdOf ByteArray.empty t527 1)] rfl lm ?_; (with_reducible refine (spec_ParsePartition.calls kj9 (rdOf ByteArray.empty t527 1) t537 true _ A22.out).mono ?_); rintro e w33 ⟨v539, rfl, ho0, hb⟩; refine ⟨_, rfl, ?_⟩; replace HO_4 := Aside0.mk (Kd.R_below (rk HO_4.out) hb); have HO540 := Aside0.mk (Kd.R_lower (Kd.R_new' ho0 (Kd.R_lt (rk HO_536000.out))) (below_size (bn HB.out))); replace HO_536000 := Aside0.mk (Kd.R_elder' (rk HO_536000.out) (Kd.R_base ho0) hb); replace BK526 := Aside0.mk (blk_below (bk BK526.out) hb); replace BK535 := Aside0.mk (blk_below (bk BK535.out) hb); replace HB := Aside0.mk (below_step (bn HB.out) hb); (try clear hb); (try clear hb2); (try clear hk); (try clear hi); (try clear ho0); obtain ⟨Ao34, co34, eo34⟩ := Kd.R_slice HO540.out; subst eo34; have hnb35 := NB535_526.out; have hnc35 := NB526_535.out; have hcz36_0 : w33.cell? ⟨gb535, 0, none⟩ = some (.slice Ao15 t531.length co15) := (blk_cell BK535.out 0).trans rfl; have hcz36_1 : w33.cell? ⟨gb535, 1, none⟩ = some (.slice none 0 0) := (blk_cell BK535.out 1).trans rfl; have hfz36_0 := blk_frozen BK535.out 0; have hfz36_1 := blk_frozen BK535.out 1) | (go_at_call 29; (with_reducible refine (spec_ShapeText.calls kj9 _ _ t531 _ _ t537 t541 _ ?side1 ?side2 ?side3 ?side4 A24.out).mono ?_); (case side1 => refine (Kd.R_reads' (e := 3) (base := w.heap.size) (ok := fun k_ => (True ∧ some k_ ≠ (.slice Ao34 t537.length co34 : Value).ownBlock)) (n := t531.length) (c := co15) ?_).2.2; exact (by (with_reducible repeat (first | apply Kd.R_alloc | apply Kd.R_drewN | apply Kd.R_drew)); exact (Kd.R_mono (Kd.R_far (p := ⟨gb535, 1, none⟩) (Kd.R_types HO_536000.out BK535.out (by decide)) (fun _ hk => hk.2) (.slice Ao34 t537.length co34)) (fun _ h_ => h_.1)))); (case side2 => exact (Kd.R_reads' HO_536000.out).2.1); (case side3 => refine (Kd.R_reads' (e := 3) (base := w.heap.size) (ok := fun k_ => (True ∧ some k_ ≠ (.slice Ao15 t531.length co15 : Value).ownBlock)) (n := t537.length) (c := co34) ?_).2.2; exact (by (with_reducible repeat (first | apply Kd.R_alloc | apply Kd.R_drewN | apply Kd.R_drew)); exact (Kd.R_mono (Kd.R_far (p := ⟨gb535, 1, none⟩) (Kd.R_types HO540.out BK535.out (by decide)) (fun _ hk => hk.2) (.slice Ao34 t537.length co34)) (fun _ h_ => h_.1)))); (case side4 => exact (Kd.R_reads' HO540.out).2.1); rintro e w37 ⟨rfl, hb⟩; replace HO_4 := Aside0.mk (Kd.R_below (by (with_reducible repeat (first | apply Kd.R_alloc | apply Kd.R_drewN | apply Kd.R_drew)); exact (Kd.R_mono (Kd.R_far (p := ⟨gb535, 1, none⟩) (Kd.R_types HO_4.out BK535.out (by decide)) (fun _ hk => hk.2) (.slice Ao34 t537.length co34)) (fun _ h_ => h_.1))) hb); replace HO_536000 := Aside0.mk (Kd.R_below (by (with_reducible repeat (first | apply Kd.R_alloc | apply Kd.R_drewN | apply Kd.R_drew)); exact (Kd.R_mono (Kd.R_far (p := ⟨gb535, 1, none⟩) (Kd.R_types HO_536000.out BK535.out (by decide)) (fun _ hk => hk.2) (.slice Ao34 t537.length co34)) (fun _ h_ => h_.1))) hb); replace HO540 := Aside0.mk (Kd.R_below (by (with_reducible repeat (first | apply Kd.R_alloc | apply Kd.R_drewN | apply Kd.R_drew)); exact (Kd.R_mono (Kd.R_far (p := ⟨gb535, 1, none⟩) (Kd.R_types HO540.out BK535.out (by decide)) (fun _ hk => hk.2) (.slice Ao34 t537.length co34)) (fun _ h_ => h_.1))) hb); replace BK526 := Aside0.mk (blk_below (g := gb526) (o := .cells #[.slice none 0 0, .slice none 0 0] 26 (0, 0)) (by (with_reducible repeat (first | refine blk_drewN ?_ _ | refine blk_drew ?_ | refine blk_alloc ?_ _)); refine blk_far ?_ NB526_535.out _; (with_reducible repeat (first | refine blk_drewN ?_ _ | refine blk_drew ?_ | refine blk_alloc ?_ _)); exact BK526.out) hb); replace BK535 := Aside0.mk (blk_below (g := gb535) (o := .cells #[.slice Ao15 t531.length co15, .slice Ao34 t537.length co34] 26 (0, 0)) (by (with_reducible repeat (first | refine blk_drewN ?_ _ | refine blk_drew ?_ | refine blk_alloc ?_ _)); refine blk_put (cs := #[.slice Ao15 t531.length co15, .slice none 0 0]) ?_ 1 _ rfl; (with_reducible repeat (first | refine blk_drewN ?_ _ | refine blk_drew ?_ | refine blk_alloc ?_ _)); exact BK535.out) hb); replace HB := Aside0.mk (below_step (bn HB.out) hb); (try clear hb); (try clear hb2); (try clear hk); (try clear hi); have hcz38_0 : w37.cell? ⟨gb526, 0, none⟩ = some (.slice none 0 0) := (blk_cell BK526.out 0).trans rfl; have hcz38_1 : w37.cell? ⟨gb526, 1, none⟩ = some (.slice none 0 0) := (blk_cell BK526.out 1).trans rfl; have hfz38_0 := blk_frozen BK526.out 0; have hfz38_1 := blk_frozen BK526.out 1))
         refine bodyPost_ret (results_ct rfl _ _ gb526 26 #[.slice none 0 0, .slice none 0 0] (0, 0) _ rfl (by (with_reducible repeat (first | refine blk_drewN ?_ _ | refine blk_drew ?_ | refine blk_alloc ?_ _)); refine blk_put (cs := #[.slice none 0 0, .slice none 0 0]) ?_ 1 _ rfl; (with_reducible repeat (first | refine blk_drewN ?_ _ | refine blk_drew ?_ | refine blk_alloc ?_ _)); refine blk_put (cs := #[.slice none 0 0, .slice none 0 0]) ?_ 0 _ rfl; (with_reducible repeat (first | refine blk_drewN ?_ _ | refine blk_drew ?_ | refine blk_alloc ?_ _)); exact BK526.out) Tryz.underlying26 rfl (by kernel_rfl)) rfl ?_
         exact ⟨_, _, by first | rfl | (simp [errW_none, errW_some] <;> rfl) | (simp [*, errW_none, errW_some] <;> rfl), by first | exact Kd.R_nil _ _ _ _ _ | exact Kd.N_nil _ _ _ _ _ | exact Kd.V_nil _ _ _ _ _ | exact Kd.Q_nil _ _ _ _ _ | exact Kd.S_nil _ _ _ _ _, by first | exact Kd.R_nil _ _ _ _ _ | exact Kd.N_nil _ _ _ _ _ | exact Kd.V_nil _ _ _ _ _ | exact Kd.Q_nil _ _ _ _ _ | exact Kd.S_nil _ _ _ _ _, bn HB.out⟩
       ·replace c23 := Bool.eq_false_iff.mpr c23
        subst c23
        have H1 : (some (([] : List Int), ([] : List Int), false)) = some (r1, r2, r3) := by rw [if_neg (show ¬ (false = true) by decide)] at H; exact H
        clear H
        have H := H1
        clear H1
        simp only [Option.some.injEq, Prod.mk.injEq] at H
        obtain ⟨rfl, rfl, rfl⟩ := H
        have p536 : 0 ≤ (1 : Int) := (by omega)
        have q536 : 1 < (t527.length : Int) := of_decide_eq_true asm
        obtain ⟨ad536, e536, hx536_0⟩ := Kd.at_string (Kd.R_reads' HO_4.out).2.2 1 p536 q536
        obtain rfl : ad530 = ad536 := (by injection e536)
        (try simp only [show (1 : Int).toNat = 1 from rfl, Nat.reduceMul, Nat.reduceEqDiff, Go.Addr.add, ↓reduceIte] at hx536_0)
        have qi536 : (1 < t527.length) = True := eq_true (by omega)
        (try rw [show ((1 : Int)).toNat = 1 from rfl] at hx536_0)
        replace p536 := eq_true p536
        replace q536 := eq_true q536
        go_wp2_with (first | ((with_reducible refine gate_callee (f := 41) rfl ?_); refine goesL_ (some 35) rfl rfl Tryz.func41 (by kernel_rfl) rfl #[.string (rdOf ByteArray.empty t527 1)] rfl lm ?_; (with_reducible refine (spec_ParsePartition.calls kj9 (rdOf ByteArray.empty t527 1) t537 false _ A22.out).mono ?_); rintro e w39 ⟨v539, rfl, ho0, hb⟩; refine ⟨_, rfl, ?_⟩; replace HO_4 := Aside0.mk (Kd.R_below (rk HO_4.out) hb); have HO540 := Aside0.mk (Kd.R_lower (Kd.R_new' ho0 (Kd.R_lt (rk HO_536000.out))) (below_size (bn HB.out))); replace HO_536000 := Aside0.mk (Kd.R_elder' (rk HO_536000.out) (Kd.R_base ho0) hb); replace BK526 := Aside0.mk (blk_below (bk BK526.out) hb); replace BK535 := Aside0.mk (blk_below (bk BK535.out) hb); replace HB := Aside0.mk (below_step (bn HB.out) hb); (try clear hb); (try clear hb2); (try clear hk); (try clear hi); (try clear ho0); obtain ⟨Ao40, co40, eo40⟩ := Kd.R_slice HO540.out; subst eo40; have hnb41 := NB535_526.out; have hnc41 := NB526_535.out; have hcz42_0 : w39.cell? ⟨gb535, 0, none⟩ = some (.slice Ao15 t531.length co15) := (blk_cell BK535.out 0).trans rfl; have hcz42_1 : w39.cell? ⟨gb535, 1, none⟩ = some (.slice none 0 0) := (blk_cell BK535.out 1).trans rfl; have hfz42_0 := blk_frozen BK535.out 0; have hfz42_1 := blk_frozen BK535.out 1; have hcz43_0 : w39.cell? ⟨gb526, 0, none⟩ = some (.slice none 0 0) := (blk_cell BK526.out 0).trans rfl; have hcz43_1 : w39.cell? ⟨gb526, 1, none⟩ = some (.slice none 0 0) := (blk_cell BK526.out 1).trans rfl; have hfz43_0 := blk_frozen BK526.out 0; have hfz43_1 := blk_frozen BK526.out 1))
        refine bodyPost_ret (results_ct rfl _ _ gb526 26 #[.slice none 0 0, .slice none 0 0] (0, 0) _ rfl (by (with_reducible repeat (first | refine blk_drewN ?_ _ | refine blk_drew ?_ | refine blk_alloc ?_ _)); refine blk_put (cs := #[.slice none 0 0, .slice none 0 0]) ?_ 1 _ rfl; (with_reducible repeat (first | refine blk_drewN ?_ _ | refine blk_drew ?_ | refine blk_alloc ?_ _)); refine blk_put (cs := #[.slice none 0 0, .slice none 0 0]) ?_ 0 _ rfl; (with_reducible repeat (first | refine blk_drewN ?_ _ | refine blk_drew ?_ | refine blk_alloc ?_ _)); refine blk_far ?_ NB526_535.out _; (with_reducible repeat (first | refine blk_drewN ?_ _ | refine blk_drew ?_ | refine blk_alloc ?_ _)); exact BK526.out) Tryz.underlying26 rfl (by kernel_rfl)) rfl ?_
        exact ⟨_, _, by first | rfl | (simp [errW_none, errW_some] <;> rfl) | (simp [*, errW_none, errW_some] <;> rfl), by first | exact Kd.R_nil _ _ _ _ _ | exact Kd.N_nil _ _ _ _ _ | exact Kd.V_nil _ _ _ _ _ | exact Kd.Q_nil _ _ _ _ _ | exact Kd.S_nil _ _ _ _ _, by first | exact Kd.R_nil _ _ _ _ _ | exact Kd.N_nil _ _ _ _ _ | exact Kd.V_nil _ _ _ _ _ | exact Kd.Q_nil _ _ _ _ _ | exact Kd.S_nil _ _ _ _ _, bn HB.out⟩
      ·rw [if_neg c21] at H
       exact absurd H (by simp)
     ·replace c20 := Bool.eq_false_iff.mpr c20
      subst c20
      have H1 : (if t532 = true then ((spec_ShapeText.f kj9 t531 ([] : List Int)).bind fun t542 => (if t542.toList = a0.toList then (some (t531, ([] : List Int), true)) else (some (([] : List Int), ([] : List Int), false)))) else (some (([] : List Int), ([] : List Int), false))) = some (r1, r2, r3) := by rw [if_neg (show ¬ (false = true) by decide)] at H; exact H
      clear H
      have H := H1
      clear H1
      by_cases c44 : t532 = true
      ·subst c44
       have H1 : ((spec_ShapeText.f kj9 t531 ([] : List Int)).bind fun t542 => (if t542.toList = a0.toList then (some (t531, ([] : List Int), true)) else (some (([] : List Int), ([] : List Int), false)))) = some (r1, r2, r3) := by rw [if_pos rfl] at H; exact H
       clear H
       have H := H1
       clear H1
       replace H := Option.bind_eq_some_iff.mp H
       obtain ⟨t542, A450, H⟩ := H
       replace H : (if t542.toList = a0.toList then (some (t531, ([] : List Int), true)) else (some (([] : List Int), ([] : List Int), false))) = some (r1, r2, r3) := H
       have A45 := Aside0.mk A450
       clear A450
       by_cases c46 : t542.toList = a0.toList
       ·rw [if_pos c46] at H
        have c46b0 : (t542.toList == a0.toList) = true := beq_iff_eq.mpr c46
        have c46b1 : (t542.toList != a0.toList) = false := bne_eq_false_iff_eq.mpr c46
        clear c46
        simp only [Option.some.injEq, Prod.mk.injEq] at H
        obtain ⟨rfl, rfl, rfl⟩ := H
        have hnb47 := NB535_526.out
        have hnc47 := NB526_535.out
        have hcz48_0 : wc.cell? ⟨gb535, 0, none⟩ = some (.slice Ao15 t531.length co15) := (blk_cell BK535.out 0).trans rfl
        have hcz48_1 : wc.cell? ⟨gb535, 1, none⟩ = some (.slice none 0 0) := (blk_cell BK535.out 1).trans rfl
        have hfz48_0 := blk_frozen BK535.out 0
        have hfz48_1 := blk_frozen BK535.out 1
        go_wp2_with (first | (go_at_call 29; (refine (spec_ShapeText.calls kj9 _ _ t531 _ _ ([] : List Int) t542 _ ?side1 ?side2 ?side3 ?side4 A45.out).mono ?_); (case side1 => repeat (first | exact (Kd.R_reads' HO_536000.out).2.2 | (with_reducible refine Kd.C_alloc ?_ _) | (with_reducible refine Kd.C_drewN ?_ _) | (with_reducible refine Kd.C_drew ?_))); (case side2 => exact (Kd.R_reads' HO_536000.out).2.1); (case side3 => exact Kd.C_nil _ _); (case side4 => exact Nat.le_refl _); rintro e w49 ⟨rfl, hb⟩; replace HO_4 := Aside0.mk (Kd.R_below (rk HO_4.out) hb); replace HO_536000 := Aside0.mk (Kd.R_below (rk HO_536000.out) hb); replace BK526 := Aside0.mk (blk_below (bk BK526.out) hb); replace BK535 := Aside0.mk (blk_below (bk BK535.out) hb); replace HB := Aside0.mk (below_step (bn HB.out) hb); (try clear hb); (try clear hb2); (try clear hk); (try clear hi); have hcz50_0 : w49.cell? ⟨gb535, 0, none⟩ = some (.slice Ao15 t531.length co15) := (blk_cell BK535.out 0).trans rfl; have hcz50_1 : w49.cell? ⟨gb535, 1, none⟩ = some (.slice none 0 0) := (blk_cell BK535.out 1).trans rfl; have hfz50_0 := blk_frozen BK535.out 0; have hfz50_1 := blk_frozen BK535.out 1; have hcz51_0 : w49.cell? ⟨gb526, 0, none⟩ = some (.slice none 0 0) := (blk_cell BK526.out 0).trans rfl; have hcz51_1 : w49.cell? ⟨gb526, 1, none⟩ = some (.slice none 0 0) := (blk_cell BK526.out 1).trans rfl; have hfz51_0 := blk_frozen BK526.out 0; have hfz51_1 := blk_frozen BK526.out 1))
        refine bodyPost_ret (results_ct rfl _ _ gb526 26 #[.slice Ao15 t531.length co15, .slice none 0 0] (0, 0) _ rfl (by (with_reducible repeat (first | refine blk_drewN ?_ _ | refine blk_drew ?_ | refine blk_alloc ?_ _)); refine blk_put (cs := #[.slice Ao15 t531.length co15, .slice none 0 0]) ?_ 1 _ rfl; (with_reducible repeat (first | refine blk_drewN ?_ _ | refine blk_drew ?_ | refine blk_alloc ?_ _)); refine blk_put (cs := #[.slice none 0 0, .slice none 0 0]) ?_ 0 _ rfl; (with_reducible repeat (first | refine blk_drewN ?_ _ | refine blk_drew ?_ | refine blk_alloc ?_ _)); exact BK526.out) Tryz.underlying26 rfl (by kernel_rfl)) rfl ?_
        exact ⟨_, _, by first | rfl | (simp [errW_none, errW_some] <;> rfl) | (simp [*, errW_none, errW_some] <;> rfl), by (with_reducible repeat (first | apply Kd.R_alloc | apply Kd.R_drewN | apply Kd.R_drew)); exact Kd.R_mono (Kd.R_far (p := ⟨gb526, 1, none⟩) (Kd.R_far (p := ⟨gb526, 0, none⟩) (Kd.R_types HO_536000.out BK526.out (by decide)) (fun _ hk => hk.2) (.slice Ao15 t531.length co15)) (fun _ hk => hk.2) (.slice none 0 0)) (fun _ hk => (by simp [Value.ownBlock])), by first | exact Kd.R_nil _ _ _ _ _ | exact Kd.N_nil _ _ _ _ _ | exact Kd.V_nil _ _ _ _ _ | exact Kd.Q_nil _ _ _ _ _ | exact Kd.S_nil _ _ _ _ _, bn HB.out⟩
       ·rw [if_neg c46] at H
        have c46b0 : (t542.toList == a0.toList) = false := beq_eq_false_iff_ne.mpr c46
        have c46b1 : (t542.toList != a0.toList) = true := bne_iff_ne.mpr c46
        simp only [Option.some.injEq, Prod.mk.injEq] at H
        obtain ⟨rfl, rfl, rfl⟩ := H
        have hnb52 := NB535_526.out
        have hnc52 := NB526_535.out
        have hcz53_0 : wc.cell? ⟨gb535, 0, none⟩ = some (.slice Ao15 t531.length co15) := (blk_cell BK535.out 0).trans rfl
        have hcz53_1 : wc.cell? ⟨gb535, 1, none⟩ = some (.slice none 0 0) := (blk_cell BK535.out 1).trans rfl
        have hfz53_0 := blk_frozen BK535.out 0
        have hfz53_1 := blk_frozen BK535.out 1
        go_wp2_with (first | (go_at_call 29; (refine (spec_ShapeText.calls kj9 _ _ t531 _ _ ([] : List Int) t542 _ ?side1 ?side2 ?side3 ?side4 A45.out).mono ?_); (case side1 => repeat (first | exact (Kd.R_reads' HO_536000.out).2.2 | (with_reducible refine Kd.C_alloc ?_ _) | (with_reducible refine Kd.C_drewN ?_ _) | (with_reducible refine Kd.C_drew ?_))); (case side2 => exact (Kd.R_reads' HO_536000.out).2.1); (case side3 => exact Kd.C_nil _ _); (case side4 => exact Nat.le_refl _); rintro e w54 ⟨rfl, hb⟩; replace HO_4 := Aside0.mk (Kd.R_below (rk HO_4.out) hb); replace HO_536000 := Aside0.mk (Kd.R_below (rk HO_536000.out) hb); replace BK526 := Aside0.mk (blk_below (bk BK526.out) hb); replace BK535 := Aside0.mk (blk_below (bk BK535.out) hb); replace HB := Aside0.mk (below_step (bn HB.out) hb); (try clear hb); (try clear hb2); (try clear hk); (try clear hi); have hcz55_0 : w54.cell? ⟨gb526, 0, none⟩ = some (.slice none 0 0) := (blk_cell BK526.out 0).trans rfl; have hcz55_1 : w54.cell? ⟨gb526, 1, none⟩ = some (.slice none 0 0) := (blk_cell BK526.out 1).trans rfl; have hfz55_0 := blk_frozen BK526.out 0; have hfz55_1 := blk_frozen BK526.out 1))
        refine bodyPost_ret (results_ct rfl _ _ gb526 26 #[.slice none 0 0, .slice none 0 0] (0, 0) _ rfl (by (with_reducible repeat (first | refine blk_drewN ?_ _ | refine blk_drew ?_ | refine blk_alloc ?_ _)); refine blk_put (cs := #[.slice none 0 0, .slice none 0 0]) ?_ 1 _ rfl; (with_reducible repeat (first | refine blk_drewN ?_ _ | refine blk_drew ?_ | refine blk_alloc ?_ _)); refine blk_put (cs := #[.slice none 0 0, .slice none 0 0]) ?_ 0 _ rfl; (with_reducible repeat (first | refine blk_drewN ?_ _ | refine blk_drew ?_ | refine blk_alloc ?_ _)); exact BK526.out) Tryz.underlying26 rfl (by kernel_rfl)) rfl ?_
        exact ⟨_, _, by first | rfl | (simp [errW_none, errW_some] <;> rfl) | (simp [*, errW_none, errW_some] <;> rfl), by first | exact Kd.R_nil _ _ _ _ _ | exact Kd.N_nil _ _ _ _ _ | exact Kd.V_nil _ _ _ _ _ | exact Kd.Q_nil _ _ _ _ _ | exact Kd.S_nil _ _ _ _ _, by first | exact Kd.R_nil _ _ _ _ _ | exact Kd.N_nil _ _ _ _ _ | exact Kd.V_nil _ _ _ _ _ | exact Kd.Q_nil _ _ _ _ _ | exact Kd.S_nil _ _ _ _ _, bn HB.out⟩
      ·replace c44 := Bool.eq_false_iff.mpr c44
       subst c44
       have H1 : (some (([] : List Int), ([] : List Int), false)) = some (r1, r2, r3) := by rw [if_neg (show ¬ (false = true) by decide)] at H; exact H
       clear H
       have H := H1
       clear H1
       simp only [Option.some.injEq, Prod.mk.injEq] at H
       obtain ⟨rfl, rfl, rfl⟩ := H
       have hnb56 := NB526_535.out
       have hnc56 := NB535_526.out
       have hcz57_0 : wc.cell? ⟨gb526, 0, none⟩ = some (.slice none 0 0) := (blk_cell BK526.out 0).trans rfl
       have hcz57_1 : wc.cell? ⟨gb526, 1, none⟩ = some (.slice none 0 0) := (blk_cell BK526.out 1).trans rfl
       have hfz57_0 := blk_frozen BK526.out 0
       have hfz57_1 := blk_frozen BK526.out 1
       go_wp2
       refine bodyPost_ret (results_ct rfl _ _ gb526 26 #[.slice none 0 0, .slice none 0 0] (0, 0) _ rfl (by (with_reducible repeat (first | refine blk_drewN ?_ _ | refine blk_drew ?_ | refine blk_alloc ?_ _)); refine blk_put (cs := #[.slice none 0 0, .slice none 0 0]) ?_ 1 _ rfl; (with_reducible repeat (first | refine blk_drewN ?_ _ | refine blk_drew ?_ | refine blk_alloc ?_ _)); refine blk_put (cs := #[.slice none 0 0, .slice none 0 0]) ?_ 0 _ rfl; (with_reducible repeat (first | refine blk_drewN ?_ _ | refine blk_drew ?_ | refine blk_alloc ?_ _)); exact BK526.out) Tryz.underlying26 rfl (by kernel_rfl)) rfl ?_
       exact ⟨_, _, by first | rfl | (simp [errW_none, errW_some] <;> rfl) | (simp [*, errW_none, errW_some] <;> rfl), by first | exact Kd.R_nil _ _ _ _ _ | exact Kd.N_nil _ _ _ _ _ | exact Kd.V_nil _ _ _ _ _ | exact Kd.Q_nil _ _ _ _ _ | exact Kd.S_nil _ _ _ _ _, by first | exact Kd.R_nil _ _ _ _ _ | exact Kd.N_nil _ _ _ _ _ | exact Kd.V_nil _ _ _ _ _ | exact Kd.Q_nil _ _ _ _ _ | exact Kd.S_nil _ _ _ _ _, bn HB.out⟩
  ·rw [if_neg c8] at H
   exact absurd H (by simp)

/-! ### spec_l2Same: function 42 -/
def spec_l2Same.l0 : Nat → List Int → List Int → Int → Option (Bool)
 | 0, _, _, _ => none
 | k + 1, x0, x1, x5 => if x5 < (x0.length : Int) then (if 0 ≤ x5 then (if x5 < (x1.length : Int) then (if (rd x0 x5) = (rd x1 x5) then (spec_l2Same.l0 k x0 x1 (wrap64 (x5 + 1))) else (some false)) else (none)) else (none)) else (some true)
def spec_l2Same.f (k : Nat) (l0 : List Int) (l1 : List Int) : Option (Bool) := if (l0.length : Int) = (l1.length : Int) then (spec_l2Same.l0 k l0 l1 0) else (some false)
theorem spec_l2Same.mono_l : ∀ k, (∀ y0 y1 y2, LeO (spec_l2Same.l0 k y0 y1 y2) (spec_l2Same.l0 (k + 1) y0 y1 y2))
 | 0 => fun _ _ _ r h => by simp [spec_l2Same.l0] at h
 | k + 1 => by
  have ih0 := spec_l2Same.mono_l k
  ·intro y0 y1 y2
   unfold spec_l2Same.l0
   repeat' first
   | (with_reducible exact ih0 _ _ _)
   | (with_reducible exact LeO.refl _)
   | (with_reducible exact LeO.none _)
   | (with_reducible refine LeO.ite ?_ ?_)
   | (with_reducible refine LeO.bind ?_ (fun _ => ?_))
   | exact ih0 _ _ _
   | exact LeO.none _
   | refine LeO.ite ?_ ?_
   | refine LeO.bind ?_ (fun _ => ?_)
theorem spec_l2Same.mono : ∀ a0 a1 k, LeO (spec_l2Same.f k a0 a1) (spec_l2Same.f (k + 1) a0 a1) := by
 intro a0 a1 k
 have ih0 := spec_l2Same.mono_l k
 unfold spec_l2Same.f
 repeat' first
   | (with_reducible exact ih0 _ _ _)
   | (with_reducible exact LeO.refl _)
   | (with_reducible exact LeO.none _)
   | (with_reducible refine LeO.ite ?_ ?_)
   | (with_reducible refine LeO.bind ?_ (fun _ => ?_))
   | exact ih0 _ _ _
   | exact LeO.none _
   | refine LeO.ite ?_ ?_
   | refine LeO.bind ?_ (fun _ => ?_)
set_option maxHeartbeats 8000000 in
set_option maxRecDepth 100000 in
theorem spec_l2Same.calls (k : Nat) (A0 : Option Addr) (c0 : Nat) (l0 : List Int) (A1 : Option Addr) (c1 : Nat) (l1 : List Int) (r : Bool) (w : World) (hr0 : Kd.C (Kd.int .i64) w A0 l0.length l0) (hc0 : l0.length ≤ c0) (hr1 : Kd.C (Kd.int .i64) w A1 l1.length l1) (hc1 : l1.length ≤ c1) (h : spec_l2Same.f k l0 l1 = some r) :
  Calls Tryz.prog 42 #[.slice A0 l0.length c0, .slice A1 l1.length c1] w fun e w' => e = .returned (.bool r) ∧ Drawn0 w w' := by
 have HR0 := Aside0.mk hr0
 have HC0 := Aside0.mk hc0
 clear hr0 hc0
 have HR1 := Aside0.mk hr1
 have HC1 := Aside0.mk hc1
 clear hr1 hc1
 have H : (if (l0.length : Int) = (l1.length : Int) then (spec_l2Same.l0 k l0 l1 0) else (some false)) = some r := h
 clear h
 by_cases c3 : (l0.length : Int) = (l1.length : Int)
 ·rw [if_pos c3] at H
  have c3b0 : ((l0.length : Int) == (l1.length : Int)) = true := beq_iff_eq.mpr c3
  have c3b1 : ((l0.length : Int) != (l1.length : Int)) = false := bne_eq_false_iff_eq.mpr c3
  have c3b2 : (l0.length == l1.length) = true := by first | simpa using c3 | (simp at c3 ⊢; omega)
  clear c3
  have H' := Aside0.mk H
  clear H
  go_enter Tryz.func42, Tryz.ntmps42
  go_wp2
  repeat (go_quiet (fail); try go_wp2)
  go_loopg [5] k (fun kq v5 w' => ∃ (x5_1 : Int), v5 = .int .i64 x5_1 ∧ Aside0 (spec_l2Same.l0 kq l0 l1 x5_1 = some r) ∧ Aside0 (kq ≤ k) ∧ Drawn0 w w')
  case atStart => exact ⟨(0), (by first | rfl | (simp; done) | (simp [*]; done)), H', ⟨Nat.le_refl _⟩, by repeat (first | exact Drawn0.refl _ | apply Drawn0.step)⟩
  case round =>
   clear H'
   try clear c1
   try clear p2
   try clear c3
   try clear c3b0
   try clear c3b1
   try clear c3b2
   obtain ⟨x5_1, rfl, HA, HK1, ⟨m1, rfl⟩⟩ := hrel
   cases gk with
   | zero => exact absurd HA.out (by simp [spec_l2Same.l0])
   | succ k1 =>
    have H := HA.out
    clear HA
    simp only [spec_l2Same.l0] at H
    by_cases c4 : x5_1 < (l0.length : Int)
    ·rw [if_pos c4] at H
     have c4b0 : decide (x5_1 < (l0.length : Int)) = true := decide_eq_true c4
     clear c4
     by_cases c5 : 0 ≤ x5_1
     ·rw [if_pos c5] at H
      have c5b0 : decide (0 ≤ x5_1) = true := decide_eq_true c5
      clear c5
      by_cases c6 : x5_1 < (l1.length : Int)
      ·rw [if_pos c6] at H
       have c6b0 : decide (x5_1 < (l1.length : Int)) = true := decide_eq_true c6
       clear c6
       by_cases c7 : (rd l0 x5_1) = (rd l1 x5_1)
       ·rw [if_pos c7] at H
        have c7b0 : ((rd l0 x5_1) == (rd l1 x5_1)) = true := beq_iff_eq.mpr c7
        have c7b1 : ((rd l0 x5_1) != (rd l1 x5_1)) = false := bne_eq_false_iff_eq.mpr c7
        clear c7
        have H' := Aside0.mk H
        clear H
        have p543 : 0 ≤ (x5_1 : Int) := of_decide_eq_true asm
        have q543 : x5_1 < (l0.length : Int) := of_decide_eq_true asm
        obtain ⟨ad543, e543, hx543_0⟩ := Kd.at_int HR0.out x5_1 p543 q543
        cases e543
        replace p543 := eq_true p543
        replace q543 := eq_true q543
        have p544 : 0 ≤ (x5_1 : Int) := of_decide_eq_true asm
        have q544 : x5_1 < (l1.length : Int) := of_decide_eq_true asm
        obtain ⟨ad544, e544, hx544_0⟩ := Kd.at_int HR1.out x5_1 p544 q544
        cases e544
        replace p544 := eq_true p544
        replace q544 := eq_true q544
        go_wp2
        repeat (go_quiet (fail); try go_wp2)
        go_roundg k1
        case measure => have := HK1.out; omega
        case rel => exact ⟨(wrap64 (x5_1 + 1)), (by first | rfl | (simp; done) | (simp [*]; done)), H', ⟨by have := HK1.out; omega⟩, by repeat (first | exact Drawn0.refl _ | apply Drawn0.step)⟩
       ·rw [if_neg c7] at H
        have c7b0 : ((rd l0 x5_1) == (rd l1 x5_1)) = false := beq_eq_false_iff_ne.mpr c7
        have c7b1 : ((rd l0 x5_1) != (rd l1 x5_1)) = true := bne_iff_ne.mpr c7
        obtain rfl := Option.some.inj H
        have p543 : 0 ≤ (x5_1 : Int) := of_decide_eq_true asm
        have q543 : x5_1 < (l0.length : Int) := of_decide_eq_true asm
        obtain ⟨ad543, e543, hx543_0⟩ := Kd.at_int HR0.out x5_1 p543 q543
        cases e543
        replace p543 := eq_true p543
        replace q543 := eq_true q543
        have p544 : 0 ≤ (x5_1 : Int) := of_decide_eq_true asm
        have q544 : x5_1 < (l1.length : Int) := of_decide_eq_true asm
        obtain ⟨ad544, e544, hx544_0⟩ := Kd.at_int HR1.out x5_1 p544 q544
        cases e544
        replace p544 := eq_true p544
        replace q544 := eq_true q544
        go_wp2
        repeat (go_quiet (fail); try go_wp2)
        go_ret
        exact ⟨by first | rfl | (simp; done) | (simp [*]; done), by repeat (first | exact Drawn0.refl _ | apply Drawn0.step)⟩
      ·rw [if_neg c6] at H
       exact absurd H (by simp)
     ·rw [if_neg c5] at H
      exact absurd H (by simp)
    ·rw [if_neg c4] at H
     have c4b0 : decide (x5_1 < (l0.length : Int)) = false := decide_eq_false c4
     clear c4
     obtain rfl := Option.some.inj H
     go_wp2
     repeat (go_quiet (fail); try go_wp2)
     go_ret
     exact ⟨by first | rfl | (simp; done) | (simp [*]; done), by repeat (first | exact Drawn0.refl _ | apply Drawn0.step)⟩
 ·rw [if_neg c3] at H
  have c3b0 : ((l0.length : Int) == (l1.length : Int)) = false := beq_eq_false_iff_ne.mpr c3
  have c3b1 : ((l0.length : Int) != (l1.length : Int)) = true := bne_iff_ne.mpr c3
  have c3b2 : (l0.length == l1.length) = false := by first | simpa using c3 | (simp at c3 ⊢; omega)
  obtain rfl := Option.some.inj H
  go_enter Tryz.func42, Tryz.ntmps42
  go_wp2
  repeat (go_quiet (fail); try go_wp2)
  go_ret
  exact ⟨by first | rfl | (simp; done) | (simp [*]; done), by repeat (first | exact Drawn0.refl _ | apply Drawn0.step)⟩

/-! ### spec_EqualShape: function 14 -/
def spec_EqualShape.f (k : Nat) (l0_0 : List Int) (l0_1 : List Int) (l1_0 : List Int) (l1_1 : List Int) : Option (Bool) := (spec_l2Same.f k l0_0 l1_0).bind fun t547 => (if t547 = true then ((spec_l2Same.f k l0_1 l1_1).bind fun t548 => (some t548)) else (some false))
theorem spec_EqualShape.mono : ∀ a0 a1 a2 a3 k, LeO (spec_EqualShape.f k a0 a1 a2 a3) (spec_EqualShape.f (k + 1) a0 a1 a2 a3) := by
 intro a0 a1 a2 a3 k
 unfold spec_EqualShape.f
 repeat' first
   | (with_reducible exact spec_l2Same.mono _ _ _)
   | (with_reducible exact LeO.refl _)
   | (with_reducible exact LeO.none _)
   | (with_reducible refine LeO.ite ?_ ?_)
   | (with_reducible refine LeO.bind ?_ (fun _ => ?_))
   | exact spec_l2Same.mono _ _ _
   | exact LeO.none _
   | refine LeO.ite ?_ ?_
   | refine LeO.bind ?_ (fun _ => ?_)
set_option maxHeartbeats 8000000 in
set_option maxRecDepth 100000 in
theorem spec_EqualShape.calls (k : Nat) (A0_0 : Option Addr) (c0_0 : Nat) (l0_0 : List Int) (A0_1 : Option Addr) (c0_1 : Nat) (l0_1 : List Int) (A1_0 : Option Addr) (c1_0 : Nat) (l1_0 : List Int) (A1_1 : Option Addr) (c1_1 : Nat) (l1_1 : List Int) (r : Bool) (w : World) (hr0_0 : Kd.C (Kd.int .i64) w A0_0 l0_0.length l0_0) (hc0_0 : l0_0.length ≤ c0_0) (hr0_1 : Kd.C (Kd.int .i64) w A0_1 l0_1.length l0_1) (hc0_1 : l0_1.length ≤ c0_1) (hr1_0 : Kd.C (Kd.int .i64) w A1_0 l1_0.length l1_0) (hc1_0 : l1_0.length ≤ c1_0) (hr1_1 : Kd.C (Kd.int .i64) w A1_1 l1_1.length l1_1) (hc1_1 : l1_1.length ≤ c1_1) (h : spec_EqualShape.f k l0_0 l0_1 l1_0 l1_1 = some r) :
  Calls Tryz.prog 14 #[.agg #[.slice A0_0 l0_0.length c0_0, .slice A0_1 l0_1.length c0_1], .agg #[.slice A1_0 l1_0.length c1_0, .slice A1_1 l1_1.length c1_1]] w fun e w' => e = .returned (.bool r) ∧ Below w.heap.size w w' := by
 have hu26 := Tryz.underlying26
 have HR0_0 := Aside0.mk hr0_0
 have HC0_0 := Aside0.mk hc0_0
 clear hr0_0 hc0_0
 have HR0_1 := Aside0.mk hr0_1
 have HC0_1 := Aside0.mk hc0_1
 clear hr0_1 hc0_1
 have HR1_0 := Aside0.mk hr1_0
 have HC1_0 := Aside0.mk hc1_0
 clear hr1_0 hc1_0
 have HR1_1 := Aside0.mk hr1_1
 have HC1_1 := Aside0.mk hc1_1
 clear hr1_1 hc1_1
 have HB := Aside0.mk (Below.refl w.heap.size w)
 have H : ((spec_l2Same.f k l0_0 l1_0).bind fun t547 => (if t547 = true then ((spec_l2Same.f k l0_1 l1_1).bind fun t548 => (some t548)) else (some false))) = some r := h
 clear h
 replace H := Option.bind_eq_some_iff.mp H
 obtain ⟨t547, A30, H⟩ := H
 replace H : (if t547 = true then ((spec_l2Same.f k l0_1 l1_1).bind fun t548 => (some t548)) else (some false)) = some r := H
 have A3 := Aside0.mk A30
 clear A30
 by_cases c4 : t547 = true
 ·subst c4
  have H1 : ((spec_l2Same.f k l0_1 l1_1).bind fun t548 => (some t548)) = some r := by rw [if_pos rfl] at H; exact H
  clear H
  have H := H1
  clear H1
  replace H := Option.bind_eq_some_iff.mp H
  obtain ⟨t548, A50, H⟩ := H
  replace H : (some t548) = some r := H
  have A5 := Aside0.mk A50
  clear A50
  obtain rfl := Option.some.inj H
  go_enter Tryz.func14, Tryz.ntmps14
  go_wp2_with (first | (refine boxE 2 #[.slice A0_0 l0_0.length c0_0, .slice A0_1 l0_1.length c0_1] 26 rfl ?_; intro gb545 hg w6 hbox hb; have BK545 := Aside0.mk (hbox); have GW545 := Aside0.mk ((by rw [hg]; exact (below_size bnow) : w.heap.size ≤ gb545)); have GE545 := Aside0.mk ((by rw [hg]; exact (below_size bnow) : w.heap.size ≤ gb545)); replace HB := Aside0.mk (below_step bnow hb); clear hb hbox hg) | (refine boxE 3 #[.slice A1_0 l1_0.length c1_0, .slice A1_1 l1_1.length c1_1] 26 rfl ?_; intro gb546 hg w7 hbox hb; have BK546 := Aside0.mk (hbox); have GW546 := Aside0.mk ((by rw [hg]; exact (below_size (bn HB.out)) : w.heap.size ≤ gb546)); have GE546 := Aside0.mk ((by rw [hg]; exact (below_size (bn HB.out)) : w.heap.size ≤ gb546)); replace HB := Aside0.mk (below_step (bn HB.out) hb); have NB545_546 := Aside0.mk ((by rw [hg]; exact Nat.ne_of_lt (blk_lt (g := gb545) (o := .cells #[.slice A0_0 l0_0.length c0_0, .slice A0_1 l0_1.length c0_1] 26 (0, 0)) (bk BK545.out)) : gb545 ≠ gb546)); have NB546_545 := Aside0.mk ((by rw [hg]; exact Nat.ne_of_gt (blk_lt (g := gb545) (o := .cells #[.slice A0_0 l0_0.length c0_0, .slice A0_1 l0_1.length c0_1] 26 (0, 0)) (bk BK545.out)) : gb546 ≠ gb545)); replace BK545 := Aside0.mk (blk_below (bk BK545.out) hb); clear hb hbox hg; have hnb8 := NB545_546.out; have hnc8 := NB546_545.out; have hcz9_0 : w7.cell? ⟨gb545, 0, none⟩ = some (.slice A0_0 l0_0.length c0_0) := (blk_cell BK545.out 0).trans rfl; have hcz9_1 : w7.cell? ⟨gb545, 1, none⟩ = some (.slice A0_1 l0_1.length c0_1) := (blk_cell BK545.out 1).trans rfl; have hfz9_0 := blk_frozen BK545.out 0; have hfz9_1 := blk_frozen BK545.out 1; have hcz10_0 : w7.cell? ⟨gb546, 0, none⟩ = some (.slice A1_0 l1_0.length c1_0) := (blk_cell BK546.out 0).trans rfl; have hcz10_1 : w7.cell? ⟨gb546, 1, none⟩ = some (.slice A1_1 l1_1.length c1_1) := (blk_cell BK546.out 1).trans rfl; have hfz10_0 := blk_frozen BK546.out 0; have hfz10_1 := blk_frozen BK546.out 1) | ((with_reducible refine gate_callee (f := 42) rfl ?_); refine goesL_ (some 9) rfl rfl Tryz.func42 (by kernel_rfl) rfl #[.slice A0_0 l0_0.length c0_0, .slice A1_0 l1_0.length c1_0] rfl lm ?_; (with_reducible refine (spec_l2Same.calls k _ _ l0_0 _ _ l1_0 true _ (cb HR0_0.out) HC0_0.out (cb HR1_0.out) HC1_0.out A3.out).mono ?_); rintro e w' ⟨rfl, ⟨nd, rfl⟩⟩; refine ⟨_, rfl, ?_⟩) | (go_at_call 42; (with_reducible refine (spec_l2Same.calls k _ _ l0_1 _ _ l1_1 t548 _ ?side1 ?side2 ?side3 ?side4 A5.out).mono ?_); (case side1 => repeat (first | exact (Kd.C_below HR0_1.out (bn HB.out)) | (with_reducible refine Kd.C_alloc ?_ _) | (with_reducible refine Kd.C_drewN ?_ _) | (with_reducible refine Kd.C_drew ?_))); (case side2 => exact HC0_1.out); (case side3 => repeat (first | exact (Kd.C_below HR1_1.out (bn HB.out)) | (with_reducible refine Kd.C_alloc ?_ _) | (with_reducible refine Kd.C_drewN ?_ _) | (with_reducible refine Kd.C_drew ?_))); (case side4 => exact HC1_1.out); rintro e w' ⟨rfl, ⟨nd, rfl⟩⟩))
  go_ret
  exact ⟨by first | rfl | (simp [errW_none, errW_some] <;> rfl) | (simp [*, errW_none, errW_some] <;> rfl), bn HB.out⟩
 ·replace c4 := Bool.eq_false_iff.mpr c4
  subst c4
  have H1 : (some false) = some r := by rw [if_neg (show ¬ (false = true) by decide)] at H; exact H
  clear H
  have H := H1
  clear H1
  obtain rfl := Option.some.inj H
  go_enter Tryz.func14, Tryz.ntmps14
  go_wp2_with (first | (refine boxE 2 #[.slice A0_0 l0_0.length c0_0, .slice A0_1 l0_1.length c0_1] 26 rfl ?_; intro gb545 hg w11 hbox hb; have BK545 := Aside0.mk (hbox); have GW545 := Aside0.mk ((by rw [hg]; exact (below_size bnow) : w.heap.size ≤ gb545)); have GE545 := Aside0.mk ((by rw [hg]; exact (below_size bnow) : w.heap.size ≤ gb545)); replace HB := Aside0.mk (below_step bnow hb); clear hb hbox hg) | (refine boxE 3 #[.slice A1_0 l1_0.length c1_0, .slice A1_1 l1_1.length c1_1] 26 rfl ?_; intro gb546 hg w12 hbox hb; have BK546 := Aside0.mk (hbox); have GW546 := Aside0.mk ((by rw [hg]; exact (below_size (bn HB.out)) : w.heap.size ≤ gb546)); have GE546 := Aside0.mk ((by rw [hg]; exact (below_size (bn HB.out)) : w.heap.size ≤ gb546)); replace HB := Aside0.mk (below_step (bn HB.out) hb); have NB545_546 := Aside0.mk ((by rw [hg]; exact Nat.ne_of_lt (blk_lt (g := gb545) (o := .cells #[.slice A0_0 l0_0.length c0_0, .slice A0_1 l0_1.length c0_1] 26 (0, 0)) (bk BK545.out)) : gb545 ≠ gb546)); have NB546_545 := Aside0.mk ((by rw [hg]; exact Nat.ne_of_gt (blk_lt (g := gb545) (o := .cells #[.slice A0_0 l0_0.length c0_0, .slice A0_1 l0_1.length c0_1] 26 (0, 0)) (bk BK545.out)) : gb546 ≠ gb545)); replace BK545 := Aside0.mk (blk_below (bk BK545.out) hb); clear hb hbox hg; have hnb13 := NB545_546.out; have hnc13 := NB546_545.out; have hcz14_0 : w12.cell? ⟨gb545, 0, none⟩ = some (.slice A0_0 l0_0.length c0_0) := (blk_cell BK545.out 0).trans rfl; have hcz14_1 : w12.cell? ⟨gb545, 1, none⟩ = some (.slice A0_1 l0_1.length c0_1) := (blk_cell BK545.out 1).trans rfl; have hfz14_0 := blk_frozen BK545.out 0; have hfz14_1 := blk_frozen BK545.out 1; have hcz15_0 : w12.cell? ⟨gb546, 0, none⟩ = some (.slice A1_0 l1_0.length c1_0) := (blk_cell BK546.out 0).trans rfl; have hcz15_1 : w12.cell? ⟨gb546, 1, none⟩ = some (.slice A1_1 l1_1.length c1_1) := (blk_cell BK546.out 1).trans rfl; have hfz15_0 := blk_frozen BK546.out 0; have hfz15_1 := blk_frozen BK546.out 1) | ((with_reducible refine gate_callee (f := 42) rfl ?_); refine goesL_ (some 9) rfl rfl Tryz.func42 (by kernel_rfl) rfl #[.slice A0_0 l0_0.length c0_0, .slice A1_0 l1_0.length c1_0] rfl lm ?_; (with_reducible refine (spec_l2Same.calls k _ _ l0_0 _ _ l1_0 false _ (cb HR0_0.out) HC0_0.out (cb HR1_0.out) HC1_0.out A3.out).mono ?_); rintro e w' ⟨rfl, ⟨nd, rfl⟩⟩; refine ⟨_, rfl, ?_⟩))
  go_ret
  exact ⟨by first | rfl | (simp [errW_none, errW_some] <;> rfl) | (simp [*, errW_none, errW_some] <;> rfl), bn HB.out⟩

/-! ### impl_IsHorizontalStrip: function 15 -/
def impl_IsHorizontalStrip.l0 : Nat → Int → List Int → List Int → Option (Bool)
 | 0, _, _, _ => none
 | k + 1, x3, x550000, x550001 => if x3 < (x550000.length : Int) then (if 0 ≤ x3 then ((impl_at.f x550001 (wrap64 (x3 - 1))).bind fun t552 => (if (rd x550000 x3) > t552 then (some false) else (impl_IsHorizontalStrip.l0 k (wrap64 (x3 + 1)) x550000 x550001))) else (none)) else (some true)
def impl_IsHorizontalStrip.f (k : Nat) (l0_0 : List Int) (l0_1 : List Int) : Option (Bool) := (impl_IsShape.f k l0_0 l0_1).bind fun t550 => (if t550 = true then (impl_IsHorizontalStrip.l0 k 1 l0_0 l0_1) else (some false))
theorem impl_IsHorizontalStrip.mono_l : ∀ k, (∀ y0 y1 y2, LeO (impl_IsHorizontalStrip.l0 k y0 y1 y2) (impl_IsHorizontalStrip.l0 (k + 1) y0 y1 y2))
 | 0 => fun _ _ _ r h => by simp [impl_IsHorizontalStrip.l0] at h
 | k + 1 => by
  have ih0 := impl_IsHorizontalStrip.mono_l k
  ·intro y0 y1 y2
   unfold impl_IsHorizontalStrip.l0
   repeat' first
   | (with_reducible exact ih0 _ _ _)
   | (with_reducible exact impl_IsShape.mono _ _ _)
   | (with_reducible exact LeO.refl _)
   | (with_reducible exact LeO.none _)
   | (with_reducible refine LeO.ite ?_ ?_)
   | (with_reducible refine LeO.bind ?_ (fun _ => ?_))
   | exact ih0 _ _ _
   | exact impl_IsShape.mono _ _ _
   | exact LeO.none _
   | refine LeO.ite ?_ ?_
   | refine LeO.bind ?_ (fun _ => ?_)
theorem impl_IsHorizontalStrip.mono : ∀ a0 a1 k, LeO (impl_IsHorizontalStrip.f k a0 a1) (impl_IsHorizontalStrip.f (k + 1) a0 a1) := by
 intro a0 a1 k
 have ih0 := impl_IsHorizontalStrip.mono_l k
 unfold impl_IsHorizontalStrip.f
 repeat' first
   | (with_reducible exact ih0 _ _ _)
   | (with_reducible exact impl_IsShape.mono _ _ _)
   | (with_reducible exact LeO.refl _)
   | (with_reducible exact LeO.none _)
   | (with_reducible refine LeO.ite ?_ ?_)
   | (with_reducible refine LeO.bind ?_ (fun _ => ?_))
   | exact ih0 _ _ _
   | exact impl_IsShape.mono _ _ _
   | exact LeO.none _
   | refine LeO.ite ?_ ?_
   | refine LeO.bind ?_ (fun _ => ?_)
set_option maxHeartbeats 8000000 in
set_option maxRecDepth 100000 in
theorem impl_IsHorizontalStrip.calls (k : Nat) (A0_0 : Option Addr) (c0_0 : Nat) (l0_0 : List Int) (A0_1 : Option Addr) (c0_1 : Nat) (l0_1 : List Int) (r : Bool) (w : World) (hr0_0 : Kd.C (Kd.int .i64) w A0_0 l0_0.length l0_0) (hc0_0 : l0_0.length ≤ c0_0) (hr0_1 : Kd.C (Kd.int .i64) w A0_1 l0_1.length l0_1) (hc0_1 : l0_1.length ≤ c0_1) (h : impl_IsHorizontalStrip.f k l0_0 l0_1 = some r) :
  Calls Tryz.prog 15 #[.agg #[.slice A0_0 l0_0.length c0_0, .slice A0_1 l0_1.length c0_1]] w fun e w' => e = .returned (.bool r) ∧ Below w.heap.size w w' := by
 have hu26 := Tryz.underlying26
 have HR0_0 := Aside0.mk hr0_0
 have HC0_0 := Aside0.mk hc0_0
 clear hr0_0 hc0_0
 have HR0_1 := Aside0.mk hr0_1
 have HC0_1 := Aside0.mk hc0_1
 clear hr0_1 hc0_1
 have HB := Aside0.mk (Below.refl w.heap.size w)
 have H : ((impl_IsShape.f k l0_0 l0_1).bind fun t550 => (if t550 = true then (impl_IsHorizontalStrip.l0 k 1 l0_0 l0_1) else (some false))) = some r := h
 clear h
 replace H := Option.bind_eq_some_iff.mp H
 obtain ⟨t550, A20, H⟩ := H
 replace H : (if t550 = true then (impl_IsHorizontalStrip.l0 k 1 l0_0 l0_1) else (some false)) = some r := H
 have A2 := Aside0.mk A20
 clear A20
 by_cases c3 : t550 = true
 ·subst c3
  have H1 : (impl_IsHorizontalStrip.l0 k 1 l0_0 l0_1) = some r := by rw [if_pos rfl] at H; exact H
  clear H
  have H := H1
  clear H1
  have H' := Aside0.mk H
  clear H
  go_enter Tryz.func15, Tryz.ntmps15
  go_wp2_with (first | (refine boxE 1 #[.slice A0_0 l0_0.length c0_0, .slice A0_1 l0_1.length c0_1] 26 rfl ?_; intro gb549 hg w4 hbox hb; have BK549 := Aside0.mk (hbox); have GW549 := Aside0.mk ((by rw [hg]; exact (below_size bnow) : w.heap.size ≤ gb549)); have GE549 := Aside0.mk ((by rw [hg]; exact (below_size bnow) : w.heap.size ≤ gb549)); replace HB := Aside0.mk (below_step bnow hb); clear hb hbox hg; have hcz5_0 : w4.cell? ⟨gb549, 0, none⟩ = some (.slice A0_0 l0_0.length c0_0) := (blk_cell BK549.out 0).trans rfl; have hcz5_1 : w4.cell? ⟨gb549, 1, none⟩ = some (.slice A0_1 l0_1.length c0_1) := (blk_cell BK549.out 1).trans rfl; have hfz5_0 := blk_frozen BK549.out 0; have hfz5_1 := blk_frozen BK549.out 1) | (go_at_call 24; (with_reducible refine (impl_IsShape.calls k _ _ l0_0 _ _ l0_1 true _ (cb HR0_0.out) HC0_0.out (cb HR0_1.out) HC0_1.out A2.out).mono ?_); rintro e w6 ⟨rfl, hb⟩; replace BK549 := Aside0.mk (blk_below (bk BK549.out) hb); replace HB := Aside0.mk (below_step (bn HB.out) hb); (try clear hb); (try clear hb2); (try clear hk); (try clear hi)))
  repeat (go_quiet (first | (refine boxE 1 #[.slice A0_0 l0_0.length c0_0, .slice A0_1 l0_1.length c0_1] 26 rfl ?_; intro gb549 hg w4 hbox hb; have BK549 := Aside0.mk (hbox); have GW549 := Aside0.mk ((by rw [hg]; exact (below_size bnow) : w.heap.size ≤ gb549)); have GE549 := Aside0.mk ((by rw [hg]; exact (below_size bnow) : w.heap.size ≤ gb549)); replace HB := Aside0.mk (below_step bnow hb); clear hb hbox hg; have hcz5_0 : w4.cell? ⟨gb549, 0, none⟩ = some (.slice A0_0 l0_0.length c0_0) := (blk_cell BK549.out 0).trans rfl; have hcz5_1 : w4.cell? ⟨gb549, 1, none⟩ = some (.slice A0_1 l0_1.length c0_1) := (blk_cell BK549.out 1).trans rfl; have hfz5_0 := blk_frozen BK549.out 0; have hfz5_1 := blk_frozen BK549.out 1) | (go_at_call 24; (with_reducible refine (impl_IsShape.calls k _ _ l0_0 _ _ l0_1 true _ (cb HR0_0.out) HC0_0.out (cb HR0_1.out) HC0_1.out A2.out).mono ?_); rintro e w6 ⟨rfl, hb⟩; replace BK549 := Aside0.mk (blk_below (bk BK549.out) hb); replace HB := Aside0.mk (below_step (bn HB.out) hb); (try clear hb); (try clear hb2); (try clear hk); (try clear hi))); try go_wp2_with (first | (refine boxE 1 #[.slice A0_0 l0_0.length c0_0, .slice A0_1 l0_1.length c0_1] 26 rfl ?_; intro gb549 hg w4 hbox hb; have BK549 := Aside0.mk (hbox); have GW549 := Aside0.mk ((by rw [hg]; exact (below_size bnow) : w.heap.size ≤ gb549)); have GE549 := Aside0.mk ((by rw [hg]; exact (below_size bnow) : w.heap.size ≤ gb549)); replace HB := Aside0.mk (below_step bnow hb); clear hb hbox hg; have hcz5_0 : w4.cell? ⟨gb549, 0, none⟩ = some (.slice A0_0 l0_0.length c0_0) := (blk_cell BK549.out 0).trans rfl; have hcz5_1 : w4.cell? ⟨gb549, 1, none⟩ = some (.slice A0_1 l0_1.length c0_1) := (blk_cell BK549.out 1).trans rfl; have hfz5_0 := blk_frozen BK549.out 0; have hfz5_1 := blk_frozen BK549.out 1) | (go_at_call 24; (with_reducible refine (impl_IsShape.calls k _ _ l0_0 _ _ l0_1 true _ (cb HR0_0.out) HC0_0.out (cb HR0_1.out) HC0_1.out A2.out).mono ?_); rintro e w6 ⟨rfl, hb⟩; replace BK549 := Aside0.mk (blk_below (bk BK549.out) hb); replace HB := Aside0.mk (below_step (bn HB.out) hb); (try clear hb); (try clear hb2); (try clear hk); (try clear hi))))
  go_loopg [3] k (fun kq v3 w' => ∃ (x3_1 : Int), v3 = .int .i64 x3_1 ∧ Aside0 (impl_IsHorizontalStrip.l0 kq x3_1 l0_0 l0_1 = some r) ∧ Aside0 (kq ≤ k) ∧ Aside0 (w'.heap[gb549]? = some (.cells #[(.slice A0_0 l0_0.length c0_0), (.slice A0_1 l0_1.length c0_1)] 26 (0, 0))) ∧ Aside0 (Below w.heap.size w w'))
  case atStart => exact ⟨(1), (by first | rfl | (simp; done) | (simp [*]; done)), H', ⟨Nat.le_refl _⟩, ⟨bk BK549.out⟩, ⟨bn HB.out⟩⟩
  case round =>
   clear H'
   try clear c1
   try clear p2
   try clear c3
   try clear hcz5_0
   try clear hcz5_1
   try clear hfz5_0
   try clear hfz5_1
   obtain ⟨x3_1, rfl, HA, HK1, BK549, HB⟩ := hrel
   cases gk with
   | zero => exact absurd HA.out (by simp [impl_IsHorizontalStrip.l0])
   | succ k1 =>
    have H := HA.out
    clear HA
    simp only [impl_IsHorizontalStrip.l0] at H
    by_cases c7 : x3_1 < (l0_0.length : Int)
    ·rw [if_pos c7] at H
     have c7b0 : decide (x3_1 < (l0_0.length : Int)) = true := decide_eq_true c7
     clear c7
     by_cases c8 : 0 ≤ x3_1
     ·rw [if_pos c8] at H
      have c8b0 : decide (0 ≤ x3_1) = true := decide_eq_true c8
      clear c8
      replace H := Option.bind_eq_some_iff.mp H
      obtain ⟨t552, A90, H⟩ := H
      replace H : (if (rd l0_0 x3_1) > t552 then (some false) else (impl_IsHorizontalStrip.l0 k1 (wrap64 (x3_1 + 1)) l0_0 l0_1)) = some r := H
      have A9 := Aside0.mk A90
      clear A90
      by_cases c10 : (rd l0_0 x3_1) > t552
      ·rw [if_pos c10] at H
       have c10b0 : decide (t552 < (rd l0_0 x3_1)) = true := decide_eq_true c10
       clear c10
       obtain rfl := Option.some.inj H
       have hcz11_0 : wr.cell? ⟨gb549, 0, none⟩ = some (.slice A0_0 l0_0.length c0_0) := (blk_cell BK549.out 0).trans rfl
       have hcz11_1 : wr.cell? ⟨gb549, 1, none⟩ = some (.slice A0_1 l0_1.length c0_1) := (blk_cell BK549.out 1).trans rfl
       have hfz11_0 := blk_frozen BK549.out 0
       have hfz11_1 := blk_frozen BK549.out 1
       have p551 : 0 ≤ (x3_1 : Int) := of_decide_eq_true asm
       have q551 : x3_1 < (l0_0.length : Int) := of_decide_eq_true asm
       obtain ⟨ad551, e551, hx551_0⟩ := Kd.at_int HR0_0.out x3_1 p551 q551
       cases e551
       (first | replace hx551_0 := (HB.out.cell (World.block_lt_of_cell? w _ hx551_0)).trans hx551_0 | skip)
       replace p551 := eq_true p551
       replace q551 := eq_true q551
       go_wp2_with (first | (go_at_call 43; (with_reducible refine (impl_at.calls _ _ l0_1 (wrap64 (x3_1 - 1)) t552 _ (cb HR0_1.out) HC0_1.out A9.out).mono ?_); rintro e w' ⟨rfl, ⟨nd, rfl⟩⟩; (try first | exact ⟨rfl, _, World.drewN_drewN _ _ _⟩ | exact ⟨rfl, _, Eq.trans (World.drewN_drewN _ _ _) (congrArg (World.drewN _) (Nat.add_assoc _ _ _))⟩)) | (go_at_call 43; (with_reducible refine (impl_at.calls _ _ l0_1 (IntKind.i64.wrap (x3_1 - 1)) t552 _ (cb HR0_1.out) HC0_1.out (by simpa only [i64_w] using A9.out)).mono ?_); rintro e w' ⟨rfl, ⟨nd, rfl⟩⟩; (try first | exact ⟨rfl, _, World.drewN_drewN _ _ _⟩ | exact ⟨rfl, _, Eq.trans (World.drewN_drewN _ _ _) (congrArg (World.drewN _) (Nat.add_assoc _ _ _))⟩)))
       repeat (go_quiet (first | (go_at_call 43; (with_reducible refine (impl_at.calls _ _ l0_1 (wrap64 (x3_1 - 1)) t552 _ (cb HR0_1.out) HC0_1.out A9.out).mono ?_); rintro e w' ⟨rfl, ⟨nd, rfl⟩⟩; (try first | exact ⟨rfl, _, World.drewN_drewN _ _ _⟩ | exact ⟨rfl, _, Eq.trans (World.drewN_drewN _ _ _) (congrArg (World.drewN _) (Nat.add_assoc _ _ _))⟩)) | (go_at_call 43; (with_reducible refine (impl_at.calls _ _ l0_1 (IntKind.i64.wrap (x3_1 - 1)) t552 _ (cb HR0_1.out) HC0_1.out (by simpa only [i64_w] using A9.out)).mono ?_); rintro e w' ⟨rfl, ⟨nd, rfl⟩⟩; (try first | exact ⟨rfl, _, World.drewN_drewN _ _ _⟩ | exact ⟨rfl, _, Eq.trans (World.drewN_drewN _ _ _) (congrArg (World.drewN _) (Nat.add_assoc _ _ _))⟩))); try go_wp2_with (first | (go_at_call 43; (with_reducible refine (impl_at.calls _ _ l0_1 (wrap64 (x3_1 - 1)) t552 _ (cb HR0_1.out) HC0_1.out A9.out).mono ?_); rintro e w' ⟨rfl, ⟨nd, rfl⟩⟩; (try first | exact ⟨rfl, _, World.drewN_drewN _ _ _⟩ | exact ⟨rfl, _, Eq.trans (World.drewN_drewN _ _ _) (congrArg (World.drewN _) (Nat.add_assoc _ _ _))⟩)) | (go_at_call 43; (with_reducible refine (impl_at.calls _ _ l0_1 (IntKind.i64.wrap (x3_1 - 1)) t552 _ (cb HR0_1.out) HC0_1.out (by simpa only [i64_w] using A9.out)).mono ?_); rintro e w' ⟨rfl, ⟨nd, rfl⟩⟩; (try first | exact ⟨rfl, _, World.drewN_drewN _ _ _⟩ | exact ⟨rfl, _, Eq.trans (World.drewN_drewN _ _ _) (congrArg (World.drewN _) (Nat.add_assoc _ _ _))⟩))))
       go_ret
       exact ⟨by first | rfl | (simp [errW_none, errW_some] <;> rfl) | (simp [*, errW_none, errW_some] <;> rfl), bn HB.out⟩
      ·rw [if_neg c10] at H
       have c10b0 : decide (t552 < (rd l0_0 x3_1)) = false := decide_eq_false c10
       clear c10
       have H' := Aside0.mk H
       clear H
       have hcz12_0 : wr.cell? ⟨gb549, 0, none⟩ = some (.slice A0_0 l0_0.length c0_0) := (blk_cell BK549.out 0).trans rfl
       have hcz12_1 : wr.cell? ⟨gb549, 1, none⟩ = some (.slice A0_1 l0_1.length c0_1) := (blk_cell BK549.out 1).trans rfl
       have hfz12_0 := blk_frozen BK549.out 0
       have hfz12_1 := blk_frozen BK549.out 1
       have p551 : 0 ≤ (x3_1 : Int) := of_decide_eq_true asm
       have q551 : x3_1 < (l0_0.length : Int) := of_decide_eq_true asm
       obtain ⟨ad551, e551, hx551_0⟩ := Kd.at_int HR0_0.out x3_1 p551 q551
       cases e551
       (first | replace hx551_0 := (HB.out.cell (World.block_lt_of_cell? w _ hx551_0)).trans hx551_0 | skip)
       replace p551 := eq_true p551
       replace q551 := eq_true q551
       go_wp2_with (first | (go_at_call 43; (with_reducible refine (impl_at.calls _ _ l0_1 (wrap64 (x3_1 - 1)) t552 _ (cb HR0_1.out) HC0_1.out A9.out).mono ?_); rintro e w' ⟨rfl, ⟨nd, rfl⟩⟩; (try first | exact ⟨rfl, _, World.drewN_drewN _ _ _⟩ | exact ⟨rfl, _, Eq.trans (World.drewN_drewN _ _ _) (congrArg (World.drewN _) (Nat.add_assoc _ _ _))⟩)) | (go_at_call 43; (with_reducible refine (impl_at.calls _ _ l0_1 (IntKind.i64.wrap (x3_1 - 1)) t552 _ (cb HR0_1.out) HC0_1.out (by simpa only [i64_w] using A9.out)).mono ?_); rintro e w' ⟨rfl, ⟨nd, rfl⟩⟩; (try first | exact ⟨rfl, _, World.drewN_drewN _ _ _⟩ | exact ⟨rfl, _, Eq.trans (World.drewN_drewN _ _ _) (congrArg (World.drewN _) (Nat.add_assoc _ _ _))⟩)))
       repeat (go_quiet (first | (go_at_call 43; (with_reducible refine (impl_at.calls _ _ l0_1 (wrap64 (x3_1 - 1)) t552 _ (cb HR0_1.out) HC0_1.out A9.out).mono ?_); rintro e w' ⟨rfl, ⟨nd, rfl⟩⟩; (try first | exact ⟨rfl, _, World.drewN_drewN _ _ _⟩ | exact ⟨rfl, _, Eq.trans (World.drewN_drewN _ _ _) (congrArg (World.drewN _) (Nat.add_assoc _ _ _))⟩)) | (go_at_call 43; (with_reducible refine (impl_at.calls _ _ l0_1 (IntKind.i64.wrap (x3_1 - 1)) t552 _ (cb HR0_1.out) HC0_1.out (by simpa only [i64_w] using A9.out)).mono ?_); rintro e w' ⟨rfl, ⟨nd, rfl⟩⟩; (try first | exact ⟨rfl, _, World.drewN_drewN _ _ _⟩ | exact ⟨rfl, _, Eq.trans (World.drewN_drewN _ _ _) (congrArg (World.drewN _) (Nat.add_assoc _ _ _))⟩))); try go_wp2_with (first | (go_at_call 43; (with_reducible refine (impl_at.calls _ _ l0_1 (wrap64 (x3_1 - 1)) t552 _ (cb HR0_1.out) HC0_1.out A9.out).mono ?_); rintro e w' ⟨rfl, ⟨nd, rfl⟩⟩; (try first | exact ⟨rfl, _, World.drewN_drewN _ _ _⟩ | exact ⟨rfl, _, Eq.trans (World.drewN_drewN _ _ _) (congrArg (World.drewN _) (Nat.add_assoc _ _ _))⟩)) | (go_at_call 43; (with_reducible refine (impl_at.calls _ _ l0_1 (IntKind.i64.wrap (x3_1 - 1)) t552 _ (cb HR0_1.out) HC0_1.out (by simpa only [i64_w] using A9.out)).mono ?_); rintro e w' ⟨rfl, ⟨nd, rfl⟩⟩; (try first | exact ⟨rfl, _, World.drewN_drewN _ _ _⟩ | exact ⟨rfl, _, Eq.trans (World.drewN_drewN _ _ _) (congrArg (World.drewN _) (Nat.add_assoc _ _ _))⟩))))
       go_roundg k1
       case measure => have := HK1.out; omega
       case rel => exact ⟨(wrap64 (x3_1 + 1)), (by first | rfl | (simp; done) | (simp [*]; done)), H', ⟨by have := HK1.out; omega⟩, ⟨bk BK549.out⟩, ⟨bn HB.out⟩⟩
     ·rw [if_neg c8] at H
      exact absurd H (by simp)
    ·rw [if_neg c7] at H
     have c7b0 : decide (x3_1 < (l0_0.length : Int)) = false := decide_eq_false c7
     clear c7
     obtain rfl := Option.some.inj H
     have hcz13_0 : wr.cell? ⟨gb549, 0, none⟩ = some (.slice A0_0 l0_0.length c0_0) := (blk_cell BK549.out 0).trans rfl
     have hcz13_1 : wr.cell? ⟨gb549, 1, none⟩ = some (.slice A0_1 l0_1.length c0_1) := (blk_cell BK549.out 1).trans rfl
     have hfz13_0 := blk_frozen BK549.out 0
     have hfz13_1 := blk_frozen BK549.out 1
     go_wp2
     repeat (go_quiet (fail); try go_wp2)
     go_ret
     exact ⟨by first | rfl | (simp [errW_none, errW_some] <;> rfl) | (simp [*, errW_none, errW_some] <;> rfl), bn HB.out⟩
 ·replace c3 := Bool.eq_false_iff.mpr c3
  subst c3
  have H1 : (some false) = some r := by rw [if_neg (show ¬ (false = true) by decide)] at H; exact H
  clear H
  have H := H1
  clear H1
  obtain rfl := Option.some.inj H
  go_enter Tryz.func15, Tryz.ntmps15
  go_wp2_with (first | (refine boxE 1 #[.slice A0_0 l0_0.length c0_0, .slice A0_1 l0_1.length c0_1] 26 rfl ?_; intro gb549 hg w14 hbox hb; have BK549 := Aside0.mk (hbox); have GW549 := Aside0.mk ((by rw [hg]; exact (below_size bnow) : w.heap.size ≤ gb549)); have GE549 := Aside0.mk ((by rw [hg]; exact (below_size bnow) : w.heap.size ≤ gb549)); replace HB := Aside0.mk (below_step bnow hb); clear hb hbox hg; have hcz15_0 : w14.cell? ⟨gb549, 0, none⟩ = some (.slice A0_0 l0_0.length c0_0) := (blk_cell BK549.out 0).trans rfl; have hcz15_1 : w14.cell? ⟨gb549, 1, none⟩ = some (.slice A0_1 l0_1.length c0_1) := (blk_cell BK549.out 1).trans rfl; have hfz15_0 := blk_frozen BK549.out 0; have hfz15_1 := blk_frozen BK549.out 1) | (go_at_call 24; (with_reducible refine (impl_IsShape.calls k _ _ l0_0 _ _ l0_1 false _ (cb HR0_0.out) HC0_0.out (cb HR0_1.out) HC0_1.out A2.out).mono ?_); rintro e w16 ⟨rfl, hb⟩; replace BK549 := Aside0.mk (blk_below (bk BK549.out) hb); replace HB := Aside0.mk (below_step (bn HB.out) hb); (try clear hb); (try clear hb2); (try clear hk); (try clear hi)))
  repeat (go_quiet (first | (refine boxE 1 #[.slice A0_0 l0_0.length c0_0, .slice A0_1 l0_1.length c0_1] 26 rfl ?_; intro gb549 hg w14 hbox hb; have BK549 := Aside0.mk (hbox); have GW549 := Aside0.mk ((by rw [hg]; exact (below_size bnow) : w.heap.size ≤ gb549)); have GE549 := Aside0.mk ((by rw [hg]; exact (below_size bnow) : w.heap.size ≤ gb549)); replace HB := Aside0.mk (below_step bnow hb); clear hb hbox hg; have hcz15_0 : w14.cell? ⟨gb549, 0, none⟩ = some (.slice A0_0 l0_0.length c0_0) := (blk_cell BK549.out 0).trans rfl; have hcz15_1 : w14.cell? ⟨gb549, 1, none⟩ = some (.slice A0_1 l0_1.length c0_1) := (blk_cell BK549.out 1).trans rfl; have hfz15_0 := blk_frozen BK549.out 0; have hfz15_1 := blk_frozen BK549.out 1) | (go_at_call 24; (with_reducible refine (impl_IsShape.calls k _ _ l0_0 _ _ l0_1 false _ (cb HR0_0.out) HC0_0.out (cb HR0_1.out) HC0_1.out A2.out).mono ?_); rintro e w16 ⟨rfl, hb⟩; replace BK549 := Aside0.mk (blk_below (bk BK549.out) hb); replace HB := Aside0.mk (below_step (bn HB.out) hb); (try clear hb); (try clear hb2); (try clear hk); (try clear hi))); try go_wp2_with (first | (refine boxE 1 #[.slice A0_0 l0_0.length c0_0, .slice A0_1 l0_1.length c0_1] 26 rfl ?_; intro gb549 hg w14 hbox hb; have BK549 := Aside0.mk (hbox); have GW549 := Aside0.mk ((by rw [hg]; exact (below_size bnow) : w.heap.size ≤ gb549)); have GE549 := Aside0.mk ((by rw [hg]; exact (below_size bnow) : w.heap.size ≤ gb549)); replace HB := Aside0.mk (below_step bnow hb); clear hb hbox hg; have hcz15_0 : w14.cell? ⟨gb549, 0, none⟩ = some (.slice A0_0 l0_0.length c0_0) := (blk_cell BK549.out 0).trans rfl; have hcz15_1 : w14.cell? ⟨gb549, 1, none⟩ = some (.slice A0_1 l0_1.length c0_1) := (blk_cell BK549.out 1).trans rfl; have hfz15_0 := blk_frozen BK549.out 0; have hfz15_1 := blk_frozen BK549.out 1) | (go_at_call 24; (with_reducible refine (impl_IsShape.calls k _ _ l0_0 _ _ l0_1 false _ (cb HR0_0.out) HC0_0.out (cb HR0_1.out) HC0_1.out A2.out).mono ?_); rintro e w16 ⟨rfl, hb⟩; replace BK549 := Aside0.mk (blk_below (bk BK549.out) hb); replace HB := Aside0.mk (below_step (bn HB.out) hb); (try clear hb); (try clear hb2); (try clear hk); (try clear hi))))
  go_ret
  exact ⟨by first | rfl | (simp [errW_none, errW_some] <;> rfl) | (simp [*, errW_none, errW_some] <;> rfl), bn HB.out⟩

/-! ### spec_l2At: function 44 -/
def spec_l2At.f (l0 : List Int) (a1 : Int) : Option (Int) := if a1 < 0 then (some 0) else (if a1 ≥ (l0.length : Int) then (some 0) else (if 0 ≤ a1 then (if a1 < (l0.length : Int) then (some (rd l0 a1)) else (none)) else (none)))
set_option maxHeartbeats 8000000 in
set_option maxRecDepth 100000 in
theorem spec_l2At.calls (A0 : Option Addr) (c0 : Nat) (l0 : List Int) (a1 : Int) (r : Int) (w : World) (hr0 : Kd.C (Kd.int .i64) w A0 l0.length l0) (hc0 : l0.length ≤ c0) (h : spec_l2At.f l0 a1 = some r) :
  Calls Tryz.prog 44 #[.slice A0 l0.length c0, .int .i64 a1] w fun e w' => e = .returned (.int .i64 r) ∧ Drawn0 w w' := by
 have HR0 := Aside0.mk hr0
 have HC0 := Aside0.mk hc0
 clear hr0 hc0
 have H : (if a1 < 0 then (some 0) else (if a1 ≥ (l0.length : Int) then (some 0) else (if 0 ≤ a1 then (if a1 < (l0.length : Int) then (some (rd l0 a1)) else (none)) else (none)))) = some r := h
 clear h
 by_cases c3 : a1 < 0
 ·rw [if_pos c3] at H
  have c3b0 : decide (a1 < 0) = true := decide_eq_true c3
  clear c3
  obtain rfl := Option.some.inj H
  go_enter Tryz.func44, Tryz.ntmps44
  go_wp2
  go_ret
  exact ⟨by first | rfl | (simp; done) | (simp [*]; done), by repeat (first | exact Drawn0.refl _ | apply Drawn0.step)⟩
 ·rw [if_neg c3] at H
  have c3b0 : decide (a1 < 0) = false := decide_eq_false c3
  clear c3
  by_cases c4 : a1 ≥ (l0.length : Int)
  ·rw [if_pos c4] at H
   have c4b0 : decide ((l0.length : Int) ≤ a1) = true := decide_eq_true c4
   clear c4
   obtain rfl := Option.some.inj H
   go_enter Tryz.func44, Tryz.ntmps44
   go_wp2
   go_ret
   exact ⟨by first | rfl | (simp; done) | (simp [*]; done), by repeat (first | exact Drawn0.refl _ | apply Drawn0.step)⟩
  ·rw [if_neg c4] at H
   have c4b0 : decide ((l0.length : Int) ≤ a1) = false := decide_eq_false c4
   clear c4
   by_cases c5 : 0 ≤ a1
   ·rw [if_pos c5] at H
    have c5b0 : decide (0 ≤ a1) = true := decide_eq_true c5
    clear c5
    by_cases c6 : a1 < (l0.length : Int)
    ·rw [if_pos c6] at H
     have c6b0 : decide (a1 < (l0.length : Int)) = true := decide_eq_true c6
     clear c6
     obtain rfl := Option.some.inj H
     have p553 : 0 ≤ (a1 : Int) := of_decide_eq_true asm
     have q553 : a1 < (l0.length : Int) := of_decide_eq_true asm
     obtain ⟨ad553, e553, hx553_0⟩ := Kd.at_int HR0.out a1 p553 q553
     cases e553
     replace p553 := eq_true p553
     replace q553 := eq_true q553
     go_enter Tryz.func44, Tryz.ntmps44
     go_wp2
     go_ret
     exact ⟨by first | rfl | (simp; done) | (simp [*]; done), by repeat (first | exact Drawn0.refl _ | apply Drawn0.step)⟩
    ·rw [if_neg c6] at H
     exact absurd H (by simp)
   ·rw [if_neg c5] at H
    exact absurd H (by simp)

/-! ### spec_IsHorizontalStrip: function 16 -/
def spec_IsHorizontalStrip.l0 : Nat → Int → List Int → List Int → Option (Bool)
 | 0, _, _, _ => none
 | k + 1, x3, x555000, x555001 => if x3 < (x555000.length : Int) then (if 0 ≤ x3 then ((spec_l2At.f x555001 (wrap64 (x3 - 1))).bind fun t556 => (if (rd x555000 x3) > t556 then (some false) else (spec_IsHorizontalStrip.l0 k (wrap64 (x3 + 1)) x555000 x555001))) else (none)) else ((spec_IsShape.f k x555000 x555001).bind fun t557 => (some t557))
def spec_IsHorizontalStrip.f (k : Nat) (l0_0 : List Int) (l0_1 : List Int) : Option (Bool) := spec_IsHorizontalStrip.l0 k 1 l0_0 l0_1
theorem spec_IsHorizontalStrip.mono_l : ∀ k, (∀ y0 y1 y2, LeO (spec_IsHorizontalStrip.l0 k y0 y1 y2) (spec_IsHorizontalStrip.l0 (k + 1) y0 y1 y2))
 | 0 => fun _ _ _ r h => by simp [spec_IsHorizontalStrip.l0] at h
 | k + 1 => by
  have ih0 := spec_IsHorizontalStrip.mono_l k
  ·intro y0 y1 y2
   unfold spec_IsHorizontalStrip.l0
   repeat' first
   | (with_reducible exact ih0 _ _ _)
   | (with_reducible exact spec_IsShape.mono _ _ _)
   | (with_reducible exact LeO.refl _)
   | (with_reducible exact LeO.none _)
   | (with_reducible refine LeO.ite ?_ ?_)
   | (with_reducible refine LeO.bind ?_ (fun _ => ?_))
   | exact ih0 _ _ _
   | exact spec_IsShape.mono _ _ _
   | exact LeO.none _
   | refine LeO.ite ?_ ?_
   | refine LeO.bind ?_ (fun _ => ?_)
theorem spec_IsHorizontalStrip.mono : ∀ a0 a1 k, LeO (spec_IsHorizontalStrip.f k a0 a1) (spec_IsHorizontalStrip.f (k + 1) a0 a1) := by
 intro a0 a1 k
 have ih0 := spec_IsHorizontalStrip.mono_l k
 unfold spec_IsHorizontalStrip.f
 repeat' first
   | (with_reducible exact ih0 _ _ _)
   | (with_reducible exact spec_IsShape.mono _ _ _)
   | (with_reducible exact LeO.refl _)
   | (with_reducible exact LeO.none _)
   | (with_reducible refine LeO.ite ?_ ?_)
   | (with_reducible refine LeO.bind ?_ (fun _ => ?_))
   | exact ih0 _ _ _
   | exact spec_IsShape.mono _ _ _
   | exact LeO.none _
   | refine LeO.ite ?_ ?_
   | refine LeO.bind ?_ (fun _ => ?_)
set_option maxHeartbeats 8000000 in
set_option maxRecDepth 100000 in
theorem spec_IsHorizontalStrip.calls (k : Nat) (A0_0 : Option Addr) (c0_0 : Nat) (l0_0 : List Int) (A0_1 : Option Addr) (c0_1 : Nat) (l0_1 : List Int) (r : Bool) (w : World) (hr0_0 : Kd.C (Kd.int .i64) w A0_0 l0_0.length l0_0) (hc0_0 : l0_0.length ≤ c0_0) (hr0_1 : Kd.C (Kd.int .i64) w A0_1 l0_1.length l0_1) (hc0_1 : l0_1.length ≤ c0_1) (h : spec_IsHorizontalStrip.f k l0_0 l0_1 = some r) :
  Calls Tryz.prog 16 #[.agg #[.slice A0_0 l0_0.length c0_0, .slice A0_1 l0_1.length c0_1]] w fun e w' => e = .returned (.bool r) ∧ Below w.heap.size w w' := by
 have hu26 := Tryz.underlying26
 have HR0_0 := Aside0.mk hr0_0
 have HC0_0 := Aside0.mk hc0_0
 clear hr0_0 hc0_0
 have HR0_1 := Aside0.mk hr0_1
 have HC0_1 := Aside0.mk hc0_1
 clear hr0_1 hc0_1
 have HB := Aside0.mk (Below.refl w.heap.size w)
 have H : (spec_IsHorizontalStrip.l0 k 1 l0_0 l0_1) = some r := h
 clear h
 have H' := Aside0.mk H
 clear H
 go_enter Tryz.func16, Tryz.ntmps16
 go_wp2_with (first | (refine boxE 1 #[.slice A0_0 l0_0.length c0_0, .slice A0_1 l0_1.length c0_1] 26 rfl ?_; intro gb554 hg w2 hbox hb; have BK554 := Aside0.mk (hbox); have GW554 := Aside0.mk ((by rw [hg]; exact (below_size bnow) : w.heap.size ≤ gb554)); have GE554 := Aside0.mk ((by rw [hg]; exact (below_size bnow) : w.heap.size ≤ gb554)); replace HB := Aside0.mk (below_step bnow hb); clear hb hbox hg))
 repeat (go_quiet (first | (refine boxE 1 #[.slice A0_0 l0_0.length c0_0, .slice A0_1 l0_1.length c0_1] 26 rfl ?_; intro gb554 hg w2 hbox hb; have BK554 := Aside0.mk (hbox); have GW554 := Aside0.mk ((by rw [hg]; exact (below_size bnow) : w.heap.size ≤ gb554)); have GE554 := Aside0.mk ((by rw [hg]; exact (below_size bnow) : w.heap.size ≤ gb554)); replace HB := Aside0.mk (below_step bnow hb); clear hb hbox hg)); try go_wp2_with (first | (refine boxE 1 #[.slice A0_0 l0_0.length c0_0, .slice A0_1 l0_1.length c0_1] 26 rfl ?_; intro gb554 hg w2 hbox hb; have BK554 := Aside0.mk (hbox); have GW554 := Aside0.mk ((by rw [hg]; exact (below_size bnow) : w.heap.size ≤ gb554)); have GE554 := Aside0.mk ((by rw [hg]; exact (below_size bnow) : w.heap.size ≤ gb554)); replace HB := Aside0.mk (below_step bnow hb); clear hb hbox hg)))
 go_loopg [3] k (fun kq v3 w' => ∃ (x3_1 : Int), v3 = .int .i64 x3_1 ∧ Aside0 (spec_IsHorizontalStrip.l0 kq x3_1 l0_0 l0_1 = some r) ∧ Aside0 (kq ≤ k) ∧ Aside0 (w'.heap[gb554]? = some (.cells #[(.slice A0_0 l0_0.length c0_0), (.slice A0_1 l0_1.length c0_1)] 26 (0, 0))) ∧ Aside0 (Below w.heap.size w w'))
 case atStart => exact ⟨(1), (by first | rfl | (simp; done) | (simp [*]; done)), H', ⟨Nat.le_refl _⟩, ⟨bk BK554.out⟩, ⟨bn HB.out⟩⟩
 case round =>
  clear H'
  try clear c1
  try clear p2
  obtain ⟨x3_1, rfl, HA, HK1, BK554, HB⟩ := hrel
  cases gk with
  | zero => exact absurd HA.out (by simp [spec_IsHorizontalStrip.l0])
  | succ k1 =>
   have H := HA.out
   clear HA
   simp only [spec_IsHorizontalStrip.l0] at H
   by_cases c3 : x3_1 < (l0_0.length : Int)
   ·rw [if_pos c3] at H
    have c3b0 : decide (x3_1 < (l0_0.length : Int)) = true := decide_eq_true c3
    clear c3
    by_cases c4 : 0 ≤ x3_1
    ·rw [if_pos c4] at H
     have c4b0 : decide (0 ≤ x3_1) = true := decide_eq_true c4
     clear c4
     replace H := Option.bind_eq_some_iff.mp H
     obtain ⟨t556, A50, H⟩ := H
     replace H : (if (rd l0_0 x3_1) > t556 then (some false) else (spec_IsHorizontalStrip.l0 k1 (wrap64 (x3_1 + 1)) l0_0 l0_1)) = some r := H
     have A5 := Aside0.mk A50
     clear A50
     by_cases c6 : (rd l0_0 x3_1) > t556
     ·rw [if_pos c6] at H
      have c6b0 : decide (t556 < (rd l0_0 x3_1)) = true := decide_eq_true c6
      clear c6
      obtain rfl := Option.some.inj H
      have hcz7_0 : wr.cell? ⟨gb554, 0, none⟩ = some (.slice A0_0 l0_0.length c0_0) := (blk_cell BK554.out 0).trans rfl
      have hcz7_1 : wr.cell? ⟨gb554, 1, none⟩ = some (.slice A0_1 l0_1.length c0_1) := (blk_cell BK554.out 1).trans rfl
      have hfz7_0 := blk_frozen BK554.out 0
      have hfz7_1 := blk_frozen BK554.out 1
      have p555 : 0 ≤ (x3_1 : Int) := of_decide_eq_true asm
      have q555 : x3_1 < (l0_0.length : Int) := of_decide_eq_true asm
      obtain ⟨ad555, e555, hx555_0⟩ := Kd.at_int HR0_0.out x3_1 p555 q555
      cases e555
      (first | replace hx555_0 := (HB.out.cell (World.block_lt_of_cell? w _ hx555_0)).trans hx555_0 | skip)
      replace p555 := eq_true p555
      replace q555 := eq_true q555
      go_wp2_with (first | (go_at_call 44; (with_reducible refine (spec_l2At.calls _ _ l0_1 (wrap64 (x3_1 - 1)) t556 _ (cb HR0_1.out) HC0_1.out A5.out).mono ?_); rintro e w' ⟨rfl, ⟨nd, rfl⟩⟩; (try first | exact ⟨rfl, _, World.drewN_drewN _ _ _⟩ | exact ⟨rfl, _, Eq.trans (World.drewN_drewN _ _ _) (congrArg (World.drewN _) (Nat.add_assoc _ _ _))⟩)) | (go_at_call 44; (with_reducible refine (spec_l2At.calls _ _ l0_1 (IntKind.i64.wrap (x3_1 - 1)) t556 _ (cb HR0_1.out) HC0_1.out (by simpa only [i64_w] using A5.out)).mono ?_); rintro e w' ⟨rfl, ⟨nd, rfl⟩⟩; (try first | exact ⟨rfl, _, World.drewN_drewN _ _ _⟩ | exact ⟨rfl, _, Eq.trans (World.drewN_drewN _ _ _) (congrArg (World.drewN _) (Nat.add_assoc _ _ _))⟩)))
      repeat (go_quiet (first | (go_at_call 44; (with_reducible refine (spec_l2At.calls _ _ l0_1 (wrap64 (x3_1 - 1)) t556 _ (cb HR0_1.out) HC0_1.out A5.out).mono ?_); rintro e w' ⟨rfl, ⟨nd, rfl⟩⟩; (try first | exact ⟨rfl, _, World.drewN_drewN _ _ _⟩ | exact ⟨rfl, _, Eq.trans (World.drewN_drewN _ _ _) (congrArg (World.drewN _) (Nat.add_assoc _ _ _))⟩)) | (go_at_call 44; (with_reducible refine (spec_l2At.calls _ _ l0_1 (IntKind.i64.wrap (x3_1 - 1)) t556 _ (cb HR0_1.out) HC0_1.out (by simpa only [i64_w] using A5.out)).mono ?_); rintro e w' ⟨rfl, ⟨nd, rfl⟩⟩; (try first | exact ⟨rfl, _, World.drewN_drewN _ _ _⟩ | exact ⟨rfl, _, Eq.trans (World.drewN_drewN _ _ _) (congrArg (World.drewN _) (Nat.add_assoc _ _ _))⟩))); try go_wp2_with (first | (go_at_call 44; (with_reducible refine (spec_l2At.calls _ _ l0_1 (wrap64 (x3_1 - 1)) t556 _ (cb HR0_1.out) HC0_1.out A5.out).mono ?_); rintro e w' ⟨rfl, ⟨nd, rfl⟩⟩; (try first | exact ⟨rfl, _, World.drewN_drewN _ _ _⟩ | exact ⟨rfl, _, Eq.trans (World.drewN_drewN _ _ _) (congrArg (World.drewN _) (Nat.add_assoc _ _ _))⟩)) | (go_at_call 44; (with_reducible refine (spec_l2At.calls _ _ l0_1 (IntKind.i64.wrap (x3_1 - 1)) t556 _ (cb HR0_1.out) HC0_1.out (by simpa only [i64_w] using A5.out)).mono ?_); rintro e w' ⟨rfl, ⟨nd, rfl⟩⟩; (try first | exact ⟨rfl, _, World.drewN_drewN _ _ _⟩ | exact ⟨rfl, _, Eq.trans (World.drewN_drewN _ _ _) (congrArg (World.drewN _) (Nat.add_assoc _ _ _))⟩))))
      go_ret
      exact ⟨by first | rfl | (simp [errW_none, errW_some] <;> rfl) | (simp [*, errW_none, errW_some] <;> rfl), bn HB.out⟩
     ·rw [if_neg c6] at H
      have c6b0 : decide (t556 < (rd l0_0 x3_1)) = false := decide_eq_false c6
      clear c6
      have H' := Aside0.mk H
      clear H
      have hcz8_0 : wr.cell? ⟨gb554, 0, none⟩ = some (.slice A0_0 l0_0.length c0_0) := (blk_cell BK554.out 0).trans rfl
      have hcz8_1 : wr.cell? ⟨gb554, 1, none⟩ = some (.slice A0_1 l0_1.length c0_1) := (blk_cell BK554.out 1).trans rfl
      have hfz8_0 := blk_frozen BK554.out 0
      have hfz8_1 := blk_frozen BK554.out 1
      have p555 : 0 ≤ (x3_1 : Int) := of_decide_eq_true asm
      have q555 : x3_1 < (l0_0.length : Int) := of_decide_eq_true asm
      obtain ⟨ad555, e555, hx555_0⟩ := Kd.at_int HR0_0.out x3_1 p555 q555
      cases e555
      (first | replace hx555_0 := (HB.out.cell (World.block_lt_of_cell? w _ hx555_0)).trans hx555_0 | skip)
      replace p555 := eq_true p555
      replace q555 := eq_true q555
      go_wp2_with (first | (go_at_call 44; (with_reducible refine (spec_l2At.calls _ _ l0_1 (wrap64 (x3_1 - 1)) t556 _ (cb HR0_1.out) HC0_1.out A5.out).mono ?_); rintro e w' ⟨rfl, ⟨nd, rfl⟩⟩; (try first | exact ⟨rfl, _, World.drewN_drewN _ _ _⟩ | exact ⟨rfl, _, Eq.trans (World.drewN_drewN _ _ _) (congrArg (World.drewN _) (Nat.add_assoc _ _ _))⟩)) | (go_at_call 44; (with_reducible refine (spec_l2At.calls _ _ l0_1 (IntKind.i64.wrap (x3_1 - 1)) t556 _ (cb HR0_1.out) HC0_1.out (by simpa only [i64_w] using A5.out)).mono ?_); rintro e w' ⟨rfl, ⟨nd, rfl⟩⟩; (try first | exact ⟨rfl, _, World.drewN_drewN _ _ _⟩ | exact ⟨rfl, _, Eq.trans (World.drewN_drewN _ _ _) (congrArg (World.drewN _) (Nat.add_assoc _ _ _))⟩)))
      repeat (go_quiet (first | (go_at_call 44; (with_reducible refine (spec_l2At.calls _ _ l0_1 (wrap64 (x3_1 - 1)) t556 _ (cb HR0_1.out) HC0_1.out A5.out).mono ?_); rintro e w' ⟨rfl, ⟨nd, rfl⟩⟩; (try first | exact ⟨rfl, _, World.drewN_drewN _ _ _⟩ | exact ⟨rfl, _, Eq.trans (World.drewN_drewN _ _ _) (congrArg (World.drewN _) (Nat.add_assoc _ _ _))⟩)) | (go_at_call 44; (with_reducible refine (spec_l2At.calls _ _ l0_1 (IntKind.i64.wrap (x3_1 - 1)) t556 _ (cb HR0_1.out) HC0_1.out (by simpa only [i64_w] using A5.out)).mono ?_); rintro e w' ⟨rfl, ⟨nd, rfl⟩⟩; (try first | exact ⟨rfl, _, World.drewN_drewN _ _ _⟩ | exact ⟨rfl, _, Eq.trans (World.drewN_drewN _ _ _) (congrArg (World.drewN _) (Nat.add_assoc _ _ _))⟩))); try go_wp2_with (first | (go_at_call 44; (with_reducible refine (spec_l2At.calls _ _ l0_1 (wrap64 (x3_1 - 1)) t556 _ (cb HR0_1.out) HC0_1.out A5.out).mono ?_); rintro e w' ⟨rfl, ⟨nd, rfl⟩⟩; (try first | exact ⟨rfl, _, World.drewN_drewN _ _ _⟩ | exact ⟨rfl, _, Eq.trans (World.drewN_drewN _ _ _) (congrArg (World.drewN _) (Nat.add_assoc _ _ _))⟩)) | (go_at_call 44; (with_reducible refine (spec_l2At.calls _ _ l0_1 (IntKind.i64.wrap (x3_1 - 1)) t556 _ (cb HR0_1.out) HC0_1.out (by simpa only [i64_w] using A5.out)).mono ?_); rintro e w' ⟨rfl, ⟨nd, rfl⟩⟩; (try first | exact ⟨rfl, _, World.drewN_drewN _ _ _⟩ | exact ⟨rfl, _, Eq.trans (World.drewN_drewN _ _ _) (congrArg (World.drewN _) (Nat.add_assoc _ _ _))⟩))))
      go_roundg k1
      case measure => have := HK1.out; omega
      case rel => exact ⟨(wrap64 (x3_1 + 1)), (by first | rfl | (simp; done) | (simp [*]; done)), H', ⟨by have := HK1.out; omega⟩, ⟨bk BK554.out⟩, ⟨bn HB.out⟩⟩
    ·rw [if_neg c4] at H
     exact absurd H (by simp)
   ·rw [if_neg c3] at H
    have c3b0 : decide (x3_1 < (l0_0.length : Int)) = false := decide_eq_false c3
    clear c3
    replace H := Option.bind_eq_some_iff.mp H
    obtain ⟨t557, A90, H⟩ := H
    replace H : (some t557) = some r := H
    have A9 := Aside0.mk A90
    clear A90
    obtain rfl := Option.some.inj H
    have hcz10_0 : wr.cell? ⟨gb554, 0, none⟩ = some (.slice A0_0 l0_0.length c0_0) := (blk_cell BK554.out 0).trans rfl
    have hcz10_1 : wr.cell? ⟨gb554, 1, none⟩ = some (.slice A0_1 l0_1.length c0_1) := (blk_cell BK554.out 1).trans rfl
    have hfz10_0 := blk_frozen BK554.out 0
    have hfz10_1 := blk_frozen BK554.out 1
    go_wp2_with (first | (go_at_call 25; (with_reducible refine (spec_IsShape.calls k1 _ _ l0_0 _ _ l0_1 t557 _ (cb HR0_0.out) HC0_0.out (cb HR0_1.out) HC0_1.out A9.out).mono ?_); rintro e w11 ⟨rfl, hb⟩; replace BK554 := Aside0.mk (blk_below (bk BK554.out) hb); replace HB := Aside0.mk (below_step (bn HB.out) hb); (try clear hb); (try clear hb2); (try clear hk); (try clear hi)))
    repeat (go_quiet (first | (go_at_call 25; (with_reducible refine (spec_IsShape.calls k1 _ _ l0_0 _ _ l0_1 t557 _ (cb HR0_0.out) HC0_0.out (cb HR0_1.out) HC0_1.out A9.out).mono ?_); rintro e w11 ⟨rfl, hb⟩; replace BK554 := Aside0.mk (blk_below (bk BK554.out) hb); replace HB := Aside0.mk (below_step (bn HB.out) hb); (try clear hb); (try clear hb2); (try clear hk); (try clear hi))); try go_wp2_with (first | (go_at_call 25; (with_reducible refine (spec_IsShape.calls k1 _ _ l0_0 _ _ l0_1 t557 _ (cb HR0_0.out) HC0_0.out (cb HR0_1.out) HC0_1.out A9.out).mono ?_); rintro e w11 ⟨rfl, hb⟩; replace BK554 := Aside0.mk (blk_below (bk BK554.out) hb); replace HB := Aside0.mk (below_step (bn HB.out) hb); (try clear hb); (try clear hb2); (try clear hk); (try clear hi))))
    go_ret
    exact ⟨by first | rfl | (simp [errW_none, errW_some] <;> rfl) | (simp [*, errW_none, errW_some] <;> rfl), bn HB.out⟩

end Go.Proofs.YtkbomfpebhjaoaaGreatDoor.QFnShapes
