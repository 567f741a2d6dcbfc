/- A text of this session's own program (wip/myprint.py): functions that the law FnShapes reaches, as plain Lean functions, each with the proof that the call does just that. No condition beyond those that each statement bears. -/
import Derived.Test.YtkbomfpebhjaoaaGreatDoorQFnShapesx0
import Derived.Test.YtkbomfpebhjaoaaGreatDoorQFnShapesx1
import Derived.Test.YtkbomfpebhjaoaaGreatDoorQFnShapesx2
namespace Go.Proofs.YtkbomfpebhjaoaaGreatDoor.QFnShapes
open Go.Proofs.YtkbomfpebhjaoaaGreatDoor.Short Go.RowKit Go.Proofs.YtkbomfpebhjaoaaGreatDoorW.PrintWords Go.Proofs.YtkbomfpebhjaoaaGreatDoorW.PrintLast Go.Proofs.YtkbomfpebhjaoaaGreatDoorW.PrintMore
attribute [local go_sem] max2_int min2_int max_two min_two max_three min_three max_four min_four   -- for this text's walks alone
set_option linter.unusedVariables false
set_option linter.unusedSimpArgs false

/-! ### spec_l4Strip: function 34 -/
mutual
def spec_l4Strip.j0 : Nat → Bool → List Int → List Int → Option (List Int × List Int)
 | 0, _, _, _ => none
 | k + 1, x17, x323000, x323001 => if x17 = true then (spec_l4Strip.l0 k 1 x323000 (([] : List Int))) else (some (x323000, x323001))
def spec_l4Strip.l0 : Nat → Int → List Int → List Int → Option (List Int × List Int)
 | 0, _, _, _ => none
 | k + 1, x5, x323000, x323001 => if x5 < (x323000.length : Int) then (if 0 ≤ x5 then (if (rd x323000 x5) > 1 then (if x323001.length < 17592186044416 then (spec_l4Strip.l0 k (wrap64 (x5 + 1)) x323000 (x323001 ++ [wrap64 ((rd x323000 x5) - 1)])) else (none)) else (spec_l4Strip.l0 k (wrap64 (x5 + 1)) x323000 x323001)) else (none)) else (some (x323000, x323001))
end
def spec_l4Strip.f (k : Nat) (l0 : List Int) : Option (List Int × List Int) := (spec_l1New.f k l0).bind fun bt310 => ((spec_l4Bent.f k bt310.1 bt310.2.1 bt310.2.2 8).bind fun bt314 => (if (bt314.1.length : Int) > 0 then ((spec_l1Once.f bt310.1 bt314.2.2.1 bt314.2.2.2 2).bind fun bt323 => (spec_l4Strip.j0 k bt323.1 bt314.1 bt314.2.1)) else (spec_l4Strip.j0 k false bt314.1 bt314.2.1)))
theorem spec_l4Strip.mono_l : ∀ k, (∀ y0 y1 y2, LeO (spec_l4Strip.j0 k y0 y1 y2) (spec_l4Strip.j0 (k + 1) y0 y1 y2)) ∧ (∀ y0 y1 y2, LeO (spec_l4Strip.l0 k y0 y1 y2) (spec_l4Strip.l0 (k + 1) y0 y1 y2))
 | 0 => ⟨fun _ _ _ r h => by simp [spec_l4Strip.j0] at h, fun _ _ _ r h => by simp [spec_l4Strip.l0] at h⟩
 | k + 1 => by
  obtain ⟨ih0, ih1⟩ := spec_l4Strip.mono_l k
  refine ⟨?_, ?_⟩
  ·intro y0 y1 y2
   unfold spec_l4Strip.j0
   repeat' first
   | (with_reducible exact ih0 _ _ _)
   | (with_reducible exact ih1 _ _ _)
   | (with_reducible exact spec_l1New.mono _ _)
   | (with_reducible exact spec_l4Bent.mono _ _ _ _ _)
   | (with_reducible exact LeO.refl _)
   | (with_reducible exact LeO.none _)
   | (with_reducible refine LeO.ite ?_ ?_)
   | (with_reducible refine LeO.bind ?_ (fun _ => ?_))
   | exact ih0 _ _ _
   | exact ih1 _ _ _
   | exact spec_l1New.mono _ _
   | exact spec_l4Bent.mono _ _ _ _ _
   | exact LeO.none _
   | refine LeO.ite ?_ ?_
   | refine LeO.bind ?_ (fun _ => ?_)
  ·intro y0 y1 y2
   unfold spec_l4Strip.l0
   repeat' first
   | (with_reducible exact ih0 _ _ _)
   | (with_reducible exact ih1 _ _ _)
   | (with_reducible exact spec_l1New.mono _ _)
   | (with_reducible exact spec_l4Bent.mono _ _ _ _ _)
   | (with_reducible exact LeO.refl _)
   | (with_reducible exact LeO.none _)
   | (with_reducible refine LeO.ite ?_ ?_)
   | (with_reducible refine LeO.bind ?_ (fun _ => ?_))
   | exact ih0 _ _ _
   | exact ih1 _ _ _
   | exact spec_l1New.mono _ _
   | exact spec_l4Bent.mono _ _ _ _ _
   | exact LeO.none _
   | refine LeO.ite ?_ ?_
   | refine LeO.bind ?_ (fun _ => ?_)
theorem spec_l4Strip.mono : ∀ a0 k, LeO (spec_l4Strip.f k a0) (spec_l4Strip.f (k + 1) a0) := by
 intro a0 k
 obtain ⟨ih0, ih1⟩ := spec_l4Strip.mono_l k
 unfold spec_l4Strip.f
 repeat' first
   | (with_reducible exact ih0 _ _ _)
   | (with_reducible exact ih1 _ _ _)
   | (with_reducible exact spec_l1New.mono _ _)
   | (with_reducible exact spec_l4Bent.mono _ _ _ _ _)
   | (with_reducible exact LeO.refl _)
   | (with_reducible exact LeO.none _)
   | (with_reducible refine LeO.ite ?_ ?_)
   | (with_reducible refine LeO.bind ?_ (fun _ => ?_))
   | exact ih0 _ _ _
   | exact ih1 _ _ _
   | exact spec_l1New.mono _ _
   | exact spec_l4Bent.mono _ _ _ _ _
   | exact LeO.none _
   | refine LeO.ite ?_ ?_
   | refine LeO.bind ?_ (fun _ => ?_)
def spec_l4Strip.T9 : Bool × List (List Nat × List Nat) := (true, [([], []), ([0], [0]), ([], []), ([2], [2]), ([], []), ([3, 4], [3, 4]), ([5], [5]), ([6], [6]), ([7], [7]), ([1, 8], [1, 8]), ([0, 1, 2, 3, 4, 5, 6, 7, 8, 9], []), ([10, 9, 9, 0, 1, 2, 3, 4, 5, 6, 7, 8, 9], [9, 10])])
def spec_l4Strip.B9 : List Nat := [0, 1, 0, 4, 0, 28, 60, 124, 252, 511, 1023, 2047]
theorem spec_l4Strip.tab9 : rtab .any (opsOf Tryz.f34 9) = spec_l4Strip.T9 := by kernel_rfl
theorem spec_l4Strip.bits9 : waitsOk spec_l4Strip.T9.2 spec_l4Strip.B9 = true := by kernel_rfl
set_option maxHeartbeats 8000000 in
set_option maxRecDepth 100000 in
theorem spec_l4Strip.calls (k : Nat) (A0 : Option Addr) (c0 : Nat) (l0 : List Int) (r1 : List Int) (r2 : List Int) (w : World) (hr0 : Kd.C (Kd.int .u8) w A0 l0.length l0) (hc0 : l0.length ≤ c0) (h : spec_l4Strip.f k l0 = some (r1, r2)) :
  Calls Tryz.prog 34 #[.slice A0 l0.length c0] w fun e w' => ∃ v0_ v1_ : Value, e = .returned (.agg #[v0_, v1_]) ∧ Kd.R (Kd.int .i64) 3 w' w.heap.size (fun k_ => some k_ ≠ (v1_ : Value).ownBlock) v0_ r1 ∧ Kd.R (Kd.int .i64) 3 w' w.heap.size (fun k_ => some k_ ≠ (v0_ : Value).ownBlock) v1_ r2 ∧ Below w.heap.size w w' := by
 have hu26 := Tryz.underlying26
 have HR0 := Aside0.mk hr0
 have HC0 := Aside0.mk hc0
 clear hr0 hc0
 have HB := Aside0.mk (Below.refl w.heap.size w)
 have H : ((spec_l1New.f k l0).bind fun bt310 => ((spec_l4Bent.f k bt310.1 bt310.2.1 bt310.2.2 8).bind fun bt314 => (if (bt314.1.length : Int) > 0 then ((spec_l1Once.f bt310.1 bt314.2.2.1 bt314.2.2.2 2).bind fun bt323 => (spec_l4Strip.j0 k bt323.1 bt314.1 bt314.2.1)) else (spec_l4Strip.j0 k false bt314.1 bt314.2.1)))) = some (r1, r2) := h
 clear h
 replace H := Option.bind_eq_some_iff.mp H
 obtain ⟨⟨t310, t311, t312⟩, A20, H⟩ := H
 replace H : ((spec_l4Bent.f k t310 t311 t312 8).bind fun bt314 => (if (bt314.1.length : Int) > 0 then ((spec_l1Once.f t310 bt314.2.2.1 bt314.2.2.2 2).bind fun bt323 => (spec_l4Strip.j0 k bt323.1 bt314.1 bt314.2.1)) else (spec_l4Strip.j0 k false bt314.1 bt314.2.1))) = some (r1, r2) := H
 have A2 := Aside0.mk A20
 clear A20
 replace H := Option.bind_eq_some_iff.mp H
 obtain ⟨⟨t314, t317, t320, t321⟩, A30, H⟩ := H
 replace H : (if (t314.length : Int) > 0 then ((spec_l1Once.f t310 t320 t321 2).bind fun bt323 => (spec_l4Strip.j0 k bt323.1 t314 t317)) else (spec_l4Strip.j0 k false t314 t317)) = some (r1, r2) := H
 have A3 := Aside0.mk A30
 clear A30
 have HC4 := Aside0.mk H
 clear H
 go_enter Tryz.func34, Tryz.ntmps34
 go_upto_region 3 with (first | (refine boxE 2 #[.slice none 0 0, .slice none 0 0] 26 rfl ?_; intro gb309 hg w5 hbox hb; have BK309 := Aside0.mk (hbox); have GW309 := Aside0.mk ((by rw [hg]; exact (below_size bnow) : w.heap.size ≤ gb309)); have GE309 := Aside0.mk ((by rw [hg]; exact (below_size bnow) : w.heap.size ≤ gb309)); replace HB := Aside0.mk (below_step bnow hb); clear hb hbox hg) | ((with_reducible refine gate_callee (f := 31) rfl ?_); refine goesL_ (some 7) rfl rfl Tryz.func31 (by kernel_rfl) rfl #[.slice A0 l0.length c0] rfl lm ?_; (with_reducible refine (spec_l1New.calls k _ _ l0 t310 t311 t312 w _ (bn HB.out) HR0.out HC0.out A2.out).mono ?_); rintro e w6 ⟨g313, rfl, hi, hb, hb2⟩; refine ⟨_, rfl, ?_⟩; replace HB := Aside0.mk (hb); have HI313 := Aside0.mk (hi); have NB313_309 := Aside0.mk (IsS60.ne_blk hi (blk_below (bk BK309.out) hb2) (by decide)); have NB309_313 := Aside0.mk (Ne.symm (IsS60.ne_blk hi (blk_below (bk BK309.out) hb2) (by decide))); replace BK309 := Aside0.mk (blk_below (bk BK309.out) hb2); (try clear hb); (try clear hb2); (try clear hk); (try clear hi)) | ((with_reducible refine gate_callee (f := 30) rfl ?_); refine goesL_ (some 9) rfl rfl Tryz.func30 (by kernel_rfl) rfl #[.pointer (some ⟨g313, 0, none⟩), .int .i64 8] rfl lm ?_; (with_reducible refine (spec_l4Bent.calls k g313 t310 t311 t312 8 t314 t317 t320 t321 w _ (inow HI313.out) (bi HB.out) A3.out).mono ?_); rintro e w7 ⟨v315, v318, rfl, ho0, ho1, hi, hb, hk⟩; refine ⟨_, rfl, ?_⟩; replace BK309 := Aside0.mk (KeepBut.blk hk (g' := gb309) (o := .cells #[.slice none 0 0, .slice none 0 0] 26 (0, 0)) (bk BK309.out) NB309_313.out (by simp)); have HO316 := Aside0.mk (Kd.R_lower ho0 (below_size (bi HB.out))); have HO319 := Aside0.mk (Kd.R_lower ho1 (below_size (bi HB.out))); replace HB := Aside0.mk (hb); replace HI313 := Aside0.mk (hi); (try clear hb); (try clear hb2); (try clear hk); (try clear hi); (try clear ho0); (try clear ho1)) | (refine boxE 4 #[.slice none 0 0, .slice none 0 0] 26 rfl ?_; intro gb322 hg w8 hbox hb; replace HO316 := Aside0.mk (Kd.R_below (rk HO316.out) hb); replace HO319 := Aside0.mk (Kd.R_below (rk HO319.out) hb); have BK322 := Aside0.mk (hbox); have GW322 := Aside0.mk ((by rw [hg]; exact (below_size (bi HB.out)) : w.heap.size ≤ gb322)); have GE322 := Aside0.mk ((by rw [hg]; exact (below_size (bi HB.out)) : w.heap.size ≤ gb322)); replace HB := Aside0.mk (below_step (bi HB.out) hb); have NB309_322 := Aside0.mk ((by rw [hg]; exact Nat.ne_of_lt (blk_lt (g := gb309) (o := .cells #[.slice none 0 0, .slice none 0 0] 26 (0, 0)) (bk BK309.out)) : gb309 ≠ gb322)); have NB322_309 := Aside0.mk ((by rw [hg]; exact Nat.ne_of_gt (blk_lt (g := gb309) (o := .cells #[.slice none 0 0, .slice none 0 0] 26 (0, 0)) (bk BK309.out)) : gb322 ≠ gb309)); replace BK309 := Aside0.mk (blk_below (bk BK309.out) hb); have NB313_322 := Aside0.mk ((by rw [hg]; exact Nat.ne_of_lt (IsS60.lt (show IsS60 w _ g313 t310 t320 t321 from inow HI313.out)) : g313 ≠ gb322)); have NB322_313 := Aside0.mk ((by rw [hg]; exact Nat.ne_of_gt (IsS60.lt (show IsS60 w _ g313 t310 t320 t321 from inow HI313.out)) : gb322 ≠ g313)); replace HI313 := Aside0.mk (IsS60.below (inow HI313.out) hb); clear hb hbox hg; obtain ⟨Ao9, co9, eo9⟩ := Kd.R_slice HO316.out; subst eo9; have hnb10 := NB322_309.out; have hnc10 := NB309_322.out; have hnb11 := NB322_313.out; have hnc11 := NB313_322.out; have hcz12_0 : w8.cell? ⟨gb322, 0, none⟩ = some (.slice none 0 0) := (blk_cell BK322.out 0).trans rfl; have hcz12_1 : w8.cell? ⟨gb322, 1, none⟩ = some (.slice none 0 0) := (blk_cell BK322.out 1).trans rfl; have hfz12_0 := blk_frozen BK322.out 0; have hfz12_1 := blk_frozen BK322.out 1; obtain ⟨Ao13, co13, eo13⟩ := Kd.R_slice HO319.out; subst eo13))
 (try simp only [Act.put, List.setIfInBounds_toArray, List.set_cons_zero, List.set_cons_succ])
 go_cut [17] (fun v17 wc => ∃ (kq : Nat) (x17_3 : Bool), v17 = .bool x17_3 ∧ Aside0 (spec_l4Strip.j0 kq x17_3 t314 t317 = some (r1, r2)) ∧ Aside0 (kq ≤ k) ∧ Aside0 (Kd.R (Kd.int .i64) 3 wc w.heap.size (fun k_ => some k_ ≠ ((.slice Ao13 t317.length co13) : Value).ownBlock) (.slice Ao9 t314.length co9) t314) ∧ Aside0 (Kd.R (Kd.int .i64) 3 wc w.heap.size (fun k_ => some k_ ≠ ((.slice Ao9 t314.length co9) : Value).ownBlock) (.slice Ao13 t317.length co13) t317) ∧ Aside0 (wc.heap[gb309]? = some (.cells #[(.slice none 0 0), (.slice none 0 0)] 26 (0, 0))) ∧ Aside0 (wc.heap[gb322]? = some (.cells #[(.slice Ao9 t314.length co9), (.slice Ao13 t317.length co13)] 26 (0, 0))) ∧ Aside0 (Below w.heap.size w wc))
 case first =>
  have H := HC4.out
  clear HC4
  by_cases c14 : (t314.length : Int) > 0
  ·rw [if_pos c14] at H
   have c14b0 : decide (0 < (t314.length : Int)) = true := decide_eq_true c14
   have c14b1 : decide (0 < t314.length) = true := decide_eq_true (by omega)
   clear c14
   (first | rw [c14b0] | rw [c14b1] | (simp only [i64_w, i32_w]; rw [c14b0]) | skip)
   replace H := Option.bind_eq_some_iff.mp H
   obtain ⟨⟨t323, t324, t325⟩, A150, H⟩ := H
   replace H : (spec_l4Strip.j0 k t323 t314 t317) = some (r1, r2) := H
   have A15 := Aside0.mk A150
   clear A150
   have H' := Aside0.mk H
   clear H
   have hnb16 := NB322_309.out
   have hnc16 := NB309_322.out
   have hnb17 := NB322_313.out
   have hnc17 := NB313_322.out
   have hcz18_0 : w8.cell? ⟨gb322, 0, none⟩ = some (.slice none 0 0) := (blk_cell BK322.out 0).trans rfl
   have hcz18_1 : w8.cell? ⟨gb322, 1, none⟩ = some (.slice none 0 0) := (blk_cell BK322.out 1).trans rfl
   have hfz18_0 := blk_frozen BK322.out 0
   have hfz18_1 := blk_frozen BK322.out 1
   go_wp2_with (first | (go_at_call 35; (with_reducible refine (spec_l1Once.calls g313 t310 t320 t321 2 t323 t324 t325 w _ (inow HI313.out) (bi HB.out) A15.out).mono ?_); rintro e w19 ⟨rfl, hi, hb, hk⟩; replace BK309 := Aside0.mk (KeepBut.blk hk (g' := gb309) (o := .cells #[.slice none 0 0, .slice none 0 0] 26 (0, 0)) (by (with_reducible repeat (first | refine blk_drewN ?_ _ | refine blk_drew ?_ | refine blk_alloc ?_ _)); refine blk_far ?_ NB309_322.out _; (with_reducible repeat (first | refine blk_drewN ?_ _ | refine blk_drew ?_ | refine blk_alloc ?_ _)); refine blk_far ?_ NB309_322.out _; (with_reducible repeat (first | refine blk_drewN ?_ _ | refine blk_drew ?_ | refine blk_alloc ?_ _)); exact BK309.out) NB309_313.out (by simp)); replace HO316 := Aside0.mk (Kd.R_mono (Kd.R_keep (IsS60.apart (show IsS60 w _ g313 t310 t320 t321 from inow HI313.out) (by (with_reducible repeat (first | apply Kd.R_alloc | apply Kd.R_drewN | apply Kd.R_drew)); exact (Kd.R_mono (Kd.R_far (p := ⟨gb322, 1, none⟩) (Kd.R_far (p := ⟨gb322, 0, none⟩) (Kd.R_types HO316.out BK322.out (by decide)) (fun _ hk => hk.2) (.slice Ao9 t314.length co9)) (fun _ hk => hk.2) (.slice Ao13 t317.length co13)) (fun _ h_ => h_.1))) (by decide)) hk (fun _ h => h.2)) (fun _ h => h.1)); replace HO319 := Aside0.mk (Kd.R_mono (Kd.R_keep (IsS60.apart (show IsS60 w _ g313 t310 t320 t321 from inow HI313.out) (by (with_reducible repeat (first | apply Kd.R_alloc | apply Kd.R_drewN | apply Kd.R_drew)); exact (Kd.R_mono (Kd.R_far (p := ⟨gb322, 1, none⟩) (Kd.R_far (p := ⟨gb322, 0, none⟩) (Kd.R_types HO319.out BK322.out (by decide)) (fun _ hk => hk.2) (.slice Ao9 t314.length co9)) (fun _ hk => hk.2) (.slice Ao13 t317.length co13)) (fun _ h_ => h_.1))) (by decide)) hk (fun _ h => h.2)) (fun _ h => h.1)); replace BK322 := Aside0.mk (KeepBut.blk hk (g' := gb322) (o := .cells #[.slice Ao9 t314.length co9, .slice Ao13 t317.length co13] 26 (0, 0)) (by (with_reducible repeat (first | refine blk_drewN ?_ _ | refine blk_drew ?_ | refine blk_alloc ?_ _)); refine blk_put (cs := #[.slice Ao9 t314.length co9, .slice none 0 0]) ?_ 1 _ rfl; (with_reducible repeat (first | refine blk_drewN ?_ _ | refine blk_drew ?_ | refine blk_alloc ?_ _)); refine blk_put (cs := #[.slice none 0 0, .slice none 0 0]) ?_ 0 _ rfl; (with_reducible repeat (first | refine blk_drewN ?_ _ | refine blk_drew ?_ | refine blk_alloc ?_ _)); exact BK322.out) NB322_313.out (by simp)); replace HB := Aside0.mk (hb); replace HI313 := Aside0.mk (hi); (try clear hb); (try clear hb2); (try clear hk); (try clear hi)))
   go_meet
   case rel => exact ⟨_, (t323), (by first | rfl | (simp; done) | (simp [*]; done)), H', ⟨by first | omega | exact Nat.le_refl _⟩, ⟨rk HO316.out⟩, ⟨rk HO319.out⟩, ⟨bk BK309.out⟩, ⟨bk BK322.out⟩, ⟨bi HB.out⟩⟩
  ·rw [if_neg c14] at H
   have c14b0 : decide (0 < (t314.length : Int)) = false := decide_eq_false c14
   have c14b1 : decide (0 < t314.length) = false := decide_eq_false (by omega)
   clear c14
   (first | rw [c14b0] | rw [c14b1] | (simp only [i64_w, i32_w]; rw [c14b0]) | skip)
   have H' := Aside0.mk H
   clear H
   have hnb20 := NB322_309.out
   have hnc20 := NB309_322.out
   have hnb21 := NB322_313.out
   have hnc21 := NB313_322.out
   have hcz22_0 : w8.cell? ⟨gb322, 0, none⟩ = some (.slice none 0 0) := (blk_cell BK322.out 0).trans rfl
   have hcz22_1 : w8.cell? ⟨gb322, 1, none⟩ = some (.slice none 0 0) := (blk_cell BK322.out 1).trans rfl
   have hfz22_0 := blk_frozen BK322.out 0
   have hfz22_1 := blk_frozen BK322.out 1
   go_wp2
   go_meet
   case rel => exact ⟨_, (false), (by first | rfl | (simp; done) | (simp [*]; done)), H', ⟨by first | omega | exact Nat.le_refl _⟩, ⟨by (with_reducible repeat (first | apply Kd.R_alloc | apply Kd.R_drewN | apply Kd.R_drew)); exact Kd.R_mono (Kd.R_far (p := ⟨gb322, 1, none⟩) (Kd.R_far (p := ⟨gb322, 0, none⟩) (Kd.R_types HO316.out BK322.out (by decide)) (fun _ hk => hk.2) (.slice Ao9 t314.length co9)) (fun _ hk => hk.2) (.slice Ao13 t317.length co13)) (fun _ hk => hk.1)⟩, ⟨by (with_reducible repeat (first | apply Kd.R_alloc | apply Kd.R_drewN | apply Kd.R_drew)); exact Kd.R_mono (Kd.R_far (p := ⟨gb322, 1, none⟩) (Kd.R_far (p := ⟨gb322, 0, none⟩) (Kd.R_types HO319.out BK322.out (by decide)) (fun _ hk => hk.2) (.slice Ao9 t314.length co9)) (fun _ hk => hk.2) (.slice Ao13 t317.length co13)) (fun _ hk => hk.1)⟩, ⟨by (with_reducible repeat (first | refine blk_drewN ?_ _ | refine blk_drew ?_ | refine blk_alloc ?_ _)); refine blk_far ?_ NB309_322.out _; (with_reducible repeat (first | refine blk_drewN ?_ _ | refine blk_drew ?_ | refine blk_alloc ?_ _)); refine blk_far ?_ NB309_322.out _; (with_reducible repeat (first | refine blk_drewN ?_ _ | refine blk_drew ?_ | refine blk_alloc ?_ _)); exact BK309.out⟩, ⟨by (with_reducible repeat (first | refine blk_drewN ?_ _ | refine blk_drew ?_ | refine blk_alloc ?_ _)); refine blk_put (cs := #[.slice Ao9 t314.length co9, .slice none 0 0]) ?_ 1 _ rfl; (with_reducible repeat (first | refine blk_drewN ?_ _ | refine blk_drew ?_ | refine blk_alloc ?_ _)); refine blk_put (cs := #[.slice none 0 0, .slice none 0 0]) ?_ 0 _ rfl; (with_reducible repeat (first | refine blk_drewN ?_ _ | refine blk_drew ?_ | refine blk_alloc ?_ _)); exact BK322.out⟩, ⟨bi HB.out⟩⟩
 case rest =>
  clear HC4
  try clear c1
  try clear c2
  try clear p2
  try clear c3
  try clear c10
  try clear c11
  try clear c14
  try clear c14b0
  try clear c14b1
  try clear c16
  try clear c17
  try clear c20
  try clear c21
  try clear hcz12_0
  try clear hcz12_1
  try clear hcz18_0
  try clear hcz18_1
  try clear hcz22_0
  try clear hcz22_1
  try clear hfz12_0
  try clear hfz12_1
  try clear hfz18_0
  try clear hfz18_1
  try clear hfz22_0
  try clear hfz22_1
  obtain ⟨kq, x17_3, rfl, HA, HJ3, HO_323000, HO_323001, BK309, BK322, HB⟩ := hcut
  cases kq with
  | zero => exact absurd HA.out (by simp [spec_l4Strip.j0])
  | succ kj3 =>
   have H := HA.out
   clear HA
   simp only [spec_l4Strip.j0] at H
   by_cases c23 : x17_3 = true
   ·subst c23
    have H1 : (spec_l4Strip.l0 kj3 1 t314 (([] : List Int))) = some (r1, r2) := by rw [if_pos rfl] at H; exact H
    clear H
    have H := H1
    clear H1
    obtain ⟨y326, hy326⟩ : ∃ y_ : List Int, y_ = (([] : List Int)) := ⟨_, rfl⟩
    replace H : (spec_l4Strip.l0 kj3 1 t314 y326) = some (r1, r2) := by first | (rw [hy326]; with_reducible exact H) | (have H2_ := (Option.bind_some _ _).symm.trans H; rw [hy326]; with_reducible exact H2_) | (have H2_ := (Option.bind_some _ _).symm.trans H; with_reducible exact H2_) | with_reducible exact H | (rw [hy326]; exact H) | exact H
    have Ny326 := Aside0.mk hy326
    clear hy326
    have H' := Aside0.mk H
    clear H
    go_wp2_with (first | ((with_reducible refine gate_dst (N := 18) rfl ?_); refine Kd.R_lit (Kd.int .i64) _ 3 ?hg (N := 18) ?hd (xs := ([] : List Int)) (inner := []) (ok := fun _ => True) (okp := fun _ => True) ?hr ?hp (fun _ hk => hk) trivial (Below.refl _ _) (Nat.le_refl _) (by simp) ?_; (case hd => rfl); (case hg => rfl); (case hr => first | (go_simp; done) | (go_simp; rfl)); (case hp => exact (Reps.none _ _)); intro v327 w24 ho25 hb hg_ hnew_; clear hg_ hnew_; (first | rw [← Ny326.out] at ho25 | (simp only [Int.reduceToNat] at ho25; rw [← Ny326.out] at ho25)); have HO328 := Aside0.mk (Kd.R_lower (Kd.R_new' (Kd.R_new' ho25 (Kd.R_lt (rk HO_323000.out))) (Kd.R_lt (rk HO_323001.out))) (below_size (bn HB.out))); replace HO_323000 := Aside0.mk (Kd.R_elder' (rk HO_323000.out) (Kd.R_base ho25) hb); replace HO_323001 := Aside0.mk (Kd.R_elder' (rk HO_323001.out) (Kd.R_base ho25) hb); replace BK309 := Aside0.mk (blk_below (bk BK309.out) hb); replace BK322 := Aside0.mk (blk_below (bk BK322.out) hb); replace HB := Aside0.mk (below_step (bn HB.out) hb); clear hb ho25; obtain ⟨Ao26, co26, eo26⟩ := Kd.R_slice HO328.out; subst eo26; have hnb27 := NB322_309.out; have hnc27 := NB309_322.out; have hcz28_0 : w24.cell? ⟨gb322, 0, none⟩ = some (.slice Ao9 t314.length co9) := (blk_cell BK322.out 0).trans rfl; have hcz28_1 : w24.cell? ⟨gb322, 1, none⟩ = some (.slice Ao13 t317.length co13) := (blk_cell BK322.out 1).trans rfl; have hfz28_0 := blk_frozen BK322.out 0; have hfz28_1 := blk_frozen BK322.out 1))
    go_loopg [5] kj3 (fun kq v5 w' => ∃ (x5_2 : Int) (x323001_2 : List Int) (u323001 : Value), v5 = .int .i64 x5_2 ∧ Aside0 (spec_l4Strip.l0 kq x5_2 t314 x323001_2 = some (r1, r2)) ∧ Aside0 (kq ≤ kj3) ∧ Aside0 (Kd.R (Kd.int .i64) 3 w' w.heap.size (fun k_ => some k_ ≠ (u323001 : Value).ownBlock) (.slice Ao9 t314.length co9) t314) ∧ Aside0 (Kd.R (Kd.int .i64) 3 w' w.heap.size (fun k_ => some k_ ≠ ((.slice Ao9 t314.length co9) : Value).ownBlock) u323001 x323001_2) ∧ Aside0 (w'.heap[gb309]? = some (.cells #[(.slice none 0 0), (.slice none 0 0)] 26 (0, 0))) ∧ Aside0 (w'.heap[gb322]? = some (.cells #[(.slice Ao9 t314.length co9), u323001] 26 (0, 0))) ∧ Aside0 (Below w.heap.size w w'))
    case atStart => exact ⟨(1), (y326), (.slice Ao26 y326.length co26), (by first | rfl | (simp; done) | (simp [*]; done)), H', ⟨Nat.le_refl _⟩, ⟨by (with_reducible repeat (first | apply Kd.R_alloc | apply Kd.R_drewN | apply Kd.R_drew)); exact Kd.R_mono (Kd.R_far (p := ⟨gb322, 1, none⟩) (Kd.R_types HO_323000.out BK322.out (by decide)) (fun _ hk => hk.2) (.slice Ao26 y326.length co26)) (fun _ hk => hk.1.2)⟩, ⟨by (with_reducible repeat (first | apply Kd.R_alloc | apply Kd.R_drewN | apply Kd.R_drew)); exact Kd.R_mono (Kd.R_far (p := ⟨gb322, 1, none⟩) (Kd.R_types HO328.out BK322.out (by decide)) (fun _ hk => hk.2) (.slice Ao26 y326.length co26)) (fun _ hk => hk.1.1.2)⟩, ⟨by (with_reducible repeat (first | refine blk_drewN ?_ _ | refine blk_drew ?_ | refine blk_alloc ?_ _)); refine blk_far ?_ NB309_322.out _; (with_reducible repeat (first | refine blk_drewN ?_ _ | refine blk_drew ?_ | refine blk_alloc ?_ _)); exact BK309.out⟩, ⟨by (with_reducible repeat (first | refine blk_drewN ?_ _ | refine blk_drew ?_ | refine blk_alloc ?_ _)); refine blk_put (cs := #[.slice Ao9 t314.length co9, .slice Ao13 t317.length co13]) ?_ 1 _ rfl; (with_reducible repeat (first | refine blk_drewN ?_ _ | refine blk_drew ?_ | refine blk_alloc ?_ _)); exact BK322.out⟩, ⟨bn HB.out⟩⟩
    case round =>
     clear H'
     try clear c1
     try clear c2
     try clear p2
     try clear c3
     try clear c10
     try clear c11
     try clear c14
     try clear c14b0
     try clear c14b1
     try clear c16
     try clear c17
     try clear c20
     try clear c21
     try clear c23
     try clear c27
     try clear hcz12_0
     try clear hcz12_1
     try clear hcz18_0
     try clear hcz18_1
     try clear hcz22_0
     try clear hcz22_1
     try clear hcz28_0
     try clear hcz28_1
     try clear hfz12_0
     try clear hfz12_1
     try clear hfz18_0
     try clear hfz18_1
     try clear hfz22_0
     try clear hfz22_1
     try clear hfz28_0
     try clear hfz28_1
     try clear p2
     obtain ⟨x5_2, x323001_2, u323001, rfl, HA, HK2, HO_323000, HO_323001, BK309, BK322, HB⟩ := hrel
     cases gk with
     | zero => exact absurd HA.out (by simp [spec_l4Strip.l0])
     | succ k2 =>
      have H := HA.out
      clear HA
      simp only [spec_l4Strip.l0] at H
      by_cases c29 : x5_2 < (t314.length : Int)
      ·rw [if_pos c29] at H
       have c29b0 : decide (x5_2 < (t314.length : Int)) = true := decide_eq_true c29
       clear c29
       by_cases c30 : 0 ≤ x5_2
       ·rw [if_pos c30] at H
        have c30b0 : decide (0 ≤ x5_2) = true := decide_eq_true c30
        clear c30
        by_cases c31 : (rd t314 x5_2) > 1
        ·rw [if_pos c31] at H
         have c31b0 : decide (1 < (rd t314 x5_2)) = true := decide_eq_true c31
         clear c31
         by_cases c32 : x323001_2.length < 17592186044416
         ·rw [if_pos c32] at H
          have LMc32 := Aside0.mk c32
          clear c32
          obtain ⟨y331, hy331⟩ : ∃ y_ : List Int, y_ = (x323001_2 ++ [wrap64 ((rd t314 x5_2) - 1)]) := ⟨_, rfl⟩
          replace H : (spec_l4Strip.l0 k2 (wrap64 (x5_2 + 1)) t314 y331) = some (r1, r2) := by first | (rw [hy331]; with_reducible exact H) | (have H2_ := (Option.bind_some _ _).symm.trans H; rw [hy331]; with_reducible exact H2_) | (have H2_ := (Option.bind_some _ _).symm.trans H; with_reducible exact H2_) | with_reducible exact H | (rw [hy331]; exact H) | exact H
          have Ny331 := Aside0.mk hy331
          clear hy331
          have H' := Aside0.mk H
          clear H
          have hnb33 := NB322_309.out
          have hnc33 := NB309_322.out
          have hcz34_0 : wr.cell? ⟨gb322, 0, none⟩ = some (.slice Ao9 t314.length co9) := (blk_cell BK322.out 0).trans rfl
          have hcz34_1 : wr.cell? ⟨gb322, 1, none⟩ = some (u323001) := (blk_cell BK322.out 1).trans rfl
          have hfz34_0 := blk_frozen BK322.out 0
          have hfz34_1 := blk_frozen BK322.out 1
          have p329 : 0 ≤ (x5_2 : Int) := of_decide_eq_true asm
          have q329 : x5_2 < (t314.length : Int) := of_decide_eq_true asm
          obtain ⟨ad329, e329, hx329_0⟩ := Kd.at_int (Kd.R_reads' HO_323000.out).2.2 x5_2 p329 q329
          cases e329
          replace p329 := eq_true p329
          replace q329 := eq_true q329
          try go_wp2
          have n0_ := Aside0.mk (Kd.R_drew HO_323000.out)
          have n1_ := Aside0.mk (Kd.R_drew HO_323001.out)
          have n2_ := Aside0.mk (blk_drew BK309.out)
          have n3_ := Aside0.mk (blk_drew BK322.out)
          have n4_ := Aside0.mk (below_drew1 HB.out)
          clear HO_323000
          clear HO_323001
          clear BK309
          clear BK322
          clear HB
          have HO_323000 := n0_
          have HO_323001 := n1_
          have BK309 := n2_
          have BK322 := n3_
          have HB := n4_
          clear n0_ n1_ n2_ n3_ n4_
          have p330 : 0 ≤ (x5_2 : Int) := of_decide_eq_true asm
          have q330 : x5_2 < (t314.length : Int) := of_decide_eq_true asm
          obtain ⟨ad330, e330, hx330_0⟩ := Kd.at_int (Kd.R_reads' HO_323000.out).2.2 x5_2 p330 q330
          obtain rfl : ad329 = ad330 := (by injection e330)
          replace p330 := eq_true p330
          replace q330 := eq_true q330
          refine start_ (n := 12) (S := fun w' => w'.cell? ⟨gb322, 0, none⟩ = some (.slice (some ad329) t314.length co9) ∧ w'.cell? ⟨gb322, 1, none⟩ = some (u323001) ∧ w'.cell? (ad329.add (x5_2).toNat) = some (.int .i64 (rd t314 x5_2))) (ds := [9, 11]) (tf 12 0) (by kernel_rfl) rfl rfl ⟨(blk_cell BK322.out 0).trans rfl, (blk_cell BK322.out 1).trans rfl, hx330_0⟩ (fun hHeld => ?_); refine with_tabW spec_l4Strip.tab9 spec_l4Strip.bits9 (fun HT_ HW_ => ?_)
          generalize wr.drew = w35 at HO_323000 HO_323001 BK309 BK322 HB hx330_0 hHeld ⊢
          refine pure1 0 33 (tf 12 1) (ay HT_.out) ?_
          refine pure1 2 35 #[true, false, true, false, false, false, false, false, false, false, false, false] (ay HT_.out) ?_
          refine pure1 4 37 #[true, false, true, false, true, false, false, false, false, false, false, false] (ay HT_.out) ?_
          refine take_ (i := 1) (N := some 34) (v := ?_) (a' := ?_) #[true, true, true, false, true, false, false, false, false, false, false, false] rfl rfl (take_ofW HT_.out HW_.out (by kernel_rfl)) (fun _ _ _ h => h) (Or.inl ⟨by rfl, ?_⟩) hHeld ?_ ?_
          rotate_left
          ·rintro w' ⟨s0, s1, s2⟩
           go_simp
           with_reducible rfl
          rotate_left
          ·simp only [Act.put, List.setIfInBounds_toArray, List.set_cons_zero, List.set_cons_succ, i64_w, i32_w]
           rfl
          refine take_ (i := 3) (N := some 36) (v := ?_) (a' := ?_) (tf 12 5) rfl rfl (take_ofW HT_.out HW_.out (by kernel_rfl)) (fun _ _ _ h => h) (Or.inl ⟨by rfl, ?_⟩) hHeld ?_ ?_
          rotate_left
          ·rintro w' ⟨s0, s1, s2⟩
           go_simp
           with_reducible rfl
          rotate_left
          ·simp only [Act.put, List.setIfInBounds_toArray, List.set_cons_zero, List.set_cons_succ, i64_w, i32_w]
           rfl
          refine pure1 5 38 (tf 12 6) (ay HT_.out) ?_
          refine take_ (i := 6) (N := some 39) (v := ?_) (a' := ?_) (tf 12 7) rfl rfl (take_ofW HT_.out HW_.out (by kernel_rfl)) (fun _ _ _ h => h) (Or.inl ⟨by rfl, ?_⟩) hHeld ?_ ?_
          rotate_left
          ·rintro w' ⟨s0, s1, s2⟩
           go_simp
           with_reducible rfl
          rotate_left
          ·simp only [Act.put, List.setIfInBounds_toArray, List.set_cons_zero, List.set_cons_succ, i64_w, i32_w]
           rfl
          refine pure1 7 40 (tf 12 8) (ay HT_.out) ?_
          refine one_ (i := 8) (N := some 41) (tf 12 9) rfl rfl (one_of HT_.out (by kernel_rfl)) (by decide) (fun K hK => ?_)
          refine value_ (w1 := ?_) (v := ?_) (by rfl) rfl ?_ ?_
          rotate_left 2
          ·go_simp
           constructor
           ·rfl
           ·rfl
          refine hK.out _ _ ⟨(blk_cell (blk_alloc BK322.out _) 0).trans rfl, (blk_cell (blk_alloc BK322.out _) 1).trans rfl, (World.cell?_alloc_lt _ _ _ (World.block_lt_of_cell? _ _ (hHeld.2.2))).trans (hHeld.2.2)⟩ (fun hHeld => ?_)
          clear hK K
          refine norm1 41 ?_
          refine last_ (i := 9) (N := some 42) (tf 12 10) rfl rfl (one_of HT_.out (by kernel_rfl)) (by decide) (fun K hK => ?_)
          refine Kd.R_append_step (Kd.int .i64) (w0 := w) w.heap.size (by rfl) (.tmp 34) (.tmp 41) 24 3 (.int .i64 0) 8 rfl Tryz.underlying24 info3 rfl (by decide) (by omega) u323001 x323001_2 (wrap64 ((rd t314 x5_2) - 1)) [.int .i64 (wrap64 ((rd t314 x5_2) - 1))] (fun k_ => some k_ ≠ (.slice (some ad329) t314.length co9 : Value).ownBlock) (fun _ => False) rfl rfl ?aP (fun _ hk => hk.elim) ?aF ?aO ?aB ?aS ?aL ?_
          (case aP => exact rfl)
          (case aB => exact (bn HB.out))
          (case aF => exact (fun k_ hk => Kd.fresh' (Kd.R_lt (rk HO_323000.out)) k_ hk))
          (case aO => exact (rk HO_323001.out))
          (case aS => exact (below_size (bn HB.out)))
          (case aL => have := LMc32.out; omega)
          intro v332 w36 ho hb hg hat
          rw [← Ny331.out] at ho
          have n0_ := Aside0.mk (Kd.R_after (ok := (fun _ => True)) (by (with_reducible repeat (first | apply Kd.R_alloc | apply Kd.R_drewN | apply Kd.R_drew)); exact Kd.R_mono HO_323000.out (fun _ hk => ⟨trivial, hk⟩)) hg hat)
          have n1_ := Aside0.mk (blk_grown (g := gb309) (o := .cells #[.slice none 0 0, .slice none 0 0] 26 (0, 0)) (bk BK309.out) hg (Kd.R_ne HO_323001.out BK309.out (by decide)))
          have n2_ := Aside0.mk (blk_grown (g := gb322) (o := .cells #[.slice (some ad329) t314.length co9, u323001] 26 (0, 0)) (bk BK322.out) hg (Kd.R_ne HO_323001.out BK322.out (by decide)))
          have n3_ := Aside0.mk (hb)
          have n4_ := Aside0.mk (ho)
          clear HO_323000
          clear BK309
          clear BK322
          clear HB
          clear HO_323001
          have HO_323000 := n0_
          have BK309 := n1_
          have BK322 := n2_
          have HB := n3_
          have HO333 := n4_
          clear n0_ n1_ n2_ n3_ n4_
          clear ho hb hg hat
          obtain ⟨Ao37, co37, eo37⟩ := Kd.R_slice HO333.out
          (first | subst eo37 | (injection eo37 with f1_ f2_ f3_; have f4_ := f1_.symm; have f5_ := f3_.symm; clear f1_ f2_ f3_; subst f4_; subst f5_))
          refine hK.out _ _ ?_
          clear hK K
          refine norm1 42 ?_
          refine pure1 10 43 (tf 12 11) (ay HT_.out) ?_
          refine last_ (i := 11) (N := none) (tf 12 12) rfl rfl (one_of HT_.out (by kernel_rfl)) (by decide) (fun K hK => ?_)
          have hs38 : w36.cell? ⟨gb322, 1, none⟩ = some (u323001) := (blk_cell BK322.out 1).trans rfl
          have hfs38 := blk_frozen BK322.out 1
          have hns38_0 := NB309_322.out
          have hms38_0 := NB322_309.out
          refine skip_ (w1 := ?_) (by rfl) rfl ?_ ?_
          rotate_left
          ·go_simp
           rfl
          refine hK.out _ _ ?_
          clear hK K
          refine done_ (done_of HT_.out (by kernel_rfl)) ?_
          try go_wp2
          go_roundg k2
          case measure => have := HJ3.out; have := HK2.out; omega
          case rel => exact ⟨(wrap64 (x5_2 + 1)), (y331), (.slice Ao37 y331.length co37), (by first | rfl | (simp; done) | (simp [*]; done)), H', ⟨by have := HJ3.out; have := HK2.out; omega⟩, ⟨by (with_reducible repeat (first | apply Kd.R_alloc | apply Kd.R_drewN | apply Kd.R_drew)); exact Kd.R_mono (Kd.R_far (p := ⟨gb322, 1, none⟩) (Kd.R_types HO_323000.out BK322.out (by decide)) (fun _ hk => hk.2) (.slice Ao37 y331.length co37)) (fun _ hk => hk.1.2)⟩, ⟨by (with_reducible repeat (first | apply Kd.R_alloc | apply Kd.R_drewN | apply Kd.R_drew)); exact Kd.R_mono (Kd.R_far (p := ⟨gb322, 1, none⟩) (Kd.R_types HO333.out BK322.out (by decide)) (fun _ hk => hk.2) (.slice Ao37 y331.length co37)) (fun _ hk => hk.1)⟩, ⟨by (with_reducible repeat (first | refine blk_drewN ?_ _ | refine blk_drew ?_ | refine blk_alloc ?_ _)); refine blk_far ?_ NB309_322.out _; (with_reducible repeat (first | refine blk_drewN ?_ _ | refine blk_drew ?_ | refine blk_alloc ?_ _)); exact BK309.out⟩, ⟨by (with_reducible repeat (first | refine blk_drewN ?_ _ | refine blk_drew ?_ | refine blk_alloc ?_ _)); refine blk_put (cs := #[.slice (some ad329) t314.length co9, u323001]) ?_ 1 _ rfl; (with_reducible repeat (first | refine blk_drewN ?_ _ | refine blk_drew ?_ | refine blk_alloc ?_ _)); exact BK322.out⟩, ⟨bn HB.out⟩⟩
         ·rw [if_neg c32] at H
          exact absurd H (by simp)
        ·rw [if_neg c31] at H
         have c31b0 : decide (1 < (rd t314 x5_2)) = false := decide_eq_false c31
         clear c31
         have H' := Aside0.mk H
         clear H
         have hnb39 := NB322_309.out
         have hnc39 := NB309_322.out
         have hcz40_0 : wr.cell? ⟨gb322, 0, none⟩ = some (.slice Ao9 t314.length co9) := (blk_cell BK322.out 0).trans rfl
         have hcz40_1 : wr.cell? ⟨gb322, 1, none⟩ = some (u323001) := (blk_cell BK322.out 1).trans rfl
         have hfz40_0 := blk_frozen BK322.out 0
         have hfz40_1 := blk_frozen BK322.out 1
         have p329 : 0 ≤ (x5_2 : Int) := of_decide_eq_true asm
         have q329 : x5_2 < (t314.length : Int) := of_decide_eq_true asm
         obtain ⟨ad329, e329, hx329_0⟩ := Kd.at_int (Kd.R_reads' HO_323000.out).2.2 x5_2 p329 q329
         cases e329
         replace p329 := eq_true p329
         replace q329 := eq_true q329
         go_wp2
         go_roundg k2
         case measure => have := HJ3.out; have := HK2.out; omega
         case rel => exact ⟨(wrap64 (x5_2 + 1)), (x323001_2), (u323001), (by first | rfl | (simp; done) | (simp [*]; done)), H', ⟨by have := HJ3.out; have := HK2.out; omega⟩, ⟨rk HO_323000.out⟩, ⟨rk HO_323001.out⟩, ⟨bk BK309.out⟩, ⟨bk BK322.out⟩, ⟨bn HB.out⟩⟩
       ·rw [if_neg c30] at H
        exact absurd H (by simp)
      ·rw [if_neg c29] at H
       have c29b0 : decide (x5_2 < (t314.length : Int)) = false := decide_eq_false c29
       clear c29
       simp only [Option.some.injEq, Prod.mk.injEq] at H
       obtain ⟨rfl, rfl⟩ := H
       have hnb41 := NB322_309.out
       have hnc41 := NB309_322.out
       have hcz42_0 : wr.cell? ⟨gb322, 0, none⟩ = some (.slice Ao9 t314.length co9) := (blk_cell BK322.out 0).trans rfl
       have hcz42_1 : wr.cell? ⟨gb322, 1, none⟩ = some (u323001) := (blk_cell BK322.out 1).trans rfl
       have hfz42_0 := blk_frozen BK322.out 0
       have hfz42_1 := blk_frozen BK322.out 1
       have hcz43_0 : wr.cell? ⟨gb309, 0, none⟩ = some (.slice none 0 0) := (blk_cell BK309.out 0).trans rfl
       have hcz43_1 : wr.cell? ⟨gb309, 1, none⟩ = some (.slice none 0 0) := (blk_cell BK309.out 1).trans rfl
       have hfz43_0 := blk_frozen BK309.out 0
       have hfz43_1 := blk_frozen BK309.out 1
       obtain ⟨Ao44, co44, eo44⟩ := Kd.R_slice HO_323001.out
       subst eo44
       go_wp2
       refine bodyPost_ret (results_cell_row rfl _ _ gb309 26 #[.slice Ao9 t314.length co9, .slice Ao44 x323001_2.length co44] (0, 0) _ rfl (by (with_reducible repeat (first | refine blk_drewN ?_ _ | refine blk_drew ?_ | refine blk_alloc ?_ _)); refine blk_put (cs := #[.slice Ao9 t314.length co9, .slice none 0 0]) ?_ 1 _ rfl; (with_reducible repeat (first | refine blk_drewN ?_ _ | refine blk_drew ?_ | refine blk_alloc ?_ _)); refine blk_put (cs := #[.slice none 0 0, .slice none 0 0]) ?_ 0 _ rfl; (with_reducible repeat (first | refine blk_drewN ?_ _ | refine blk_drew ?_ | refine blk_alloc ?_ _)); exact BK309.out) Tryz.underlying26 rfl (by kernel_rfl)) rfl ?_
       exact ⟨_, _, by first | rfl | (simp [errW_none, errW_some] <;> rfl) | (simp [*, errW_none, errW_some] <;> rfl), by (with_reducible repeat (first | apply Kd.R_alloc | apply Kd.R_drewN | apply Kd.R_drew)); exact Kd.R_mono (Kd.R_far (p := ⟨gb309, 1, none⟩) (Kd.R_far (p := ⟨gb309, 0, none⟩) (Kd.R_types HO_323000.out BK309.out (by decide)) (fun _ hk => hk.2) (.slice Ao9 t314.length co9)) (fun _ hk => hk.2) (.slice Ao44 x323001_2.length co44)) (fun _ hk => hk.1), by (with_reducible repeat (first | apply Kd.R_alloc | apply Kd.R_drewN | apply Kd.R_drew)); exact Kd.R_mono (Kd.R_far (p := ⟨gb309, 1, none⟩) (Kd.R_far (p := ⟨gb309, 0, none⟩) (Kd.R_types HO_323001.out BK309.out (by decide)) (fun _ hk => hk.2) (.slice Ao9 t314.length co9)) (fun _ hk => hk.2) (.slice Ao44 x323001_2.length co44)) (fun _ hk => hk.1), bn HB.out⟩
   ·replace c23 := Bool.eq_false_iff.mpr c23
    subst c23
    have H1 : (some (t314, t317)) = some (r1, r2) := by rw [if_neg (show ¬ (false = true) by decide)] at H; exact H
    clear H
    have H := H1
    clear H1
    simp only [Option.some.injEq, Prod.mk.injEq] at H
    obtain ⟨rfl, rfl⟩ := H
    have hnb45 := NB322_309.out
    have hnc45 := NB309_322.out
    have hcz46_0 : wc.cell? ⟨gb322, 0, none⟩ = some (.slice Ao9 t314.length co9) := (blk_cell BK322.out 0).trans rfl
    have hcz46_1 : wc.cell? ⟨gb322, 1, none⟩ = some (.slice Ao13 t317.length co13) := (blk_cell BK322.out 1).trans rfl
    have hfz46_0 := blk_frozen BK322.out 0
    have hfz46_1 := blk_frozen BK322.out 1
    have hcz47_0 : wc.cell? ⟨gb309, 0, none⟩ = some (.slice none 0 0) := (blk_cell BK309.out 0).trans rfl
    have hcz47_1 : wc.cell? ⟨gb309, 1, none⟩ = some (.slice none 0 0) := (blk_cell BK309.out 1).trans rfl
    have hfz47_0 := blk_frozen BK309.out 0
    have hfz47_1 := blk_frozen BK309.out 1
    go_wp2
    refine bodyPost_ret (results_cell_row rfl _ _ gb309 26 #[.slice Ao9 t314.length co9, .slice Ao13 t317.length co13] (0, 0) _ rfl (by (with_reducible repeat (first | refine blk_drewN ?_ _ | refine blk_drew ?_ | refine blk_alloc ?_ _)); refine blk_put (cs := #[.slice Ao9 t314.length co9, .slice none 0 0]) ?_ 1 _ rfl; (with_reducible repeat (first | refine blk_drewN ?_ _ | refine blk_drew ?_ | refine blk_alloc ?_ _)); refine blk_put (cs := #[.slice none 0 0, .slice none 0 0]) ?_ 0 _ rfl; (with_reducible repeat (first | refine blk_drewN ?_ _ | refine blk_drew ?_ | refine blk_alloc ?_ _)); exact BK309.out) Tryz.underlying26 rfl (by kernel_rfl)) rfl ?_
    exact ⟨_, _, by first | rfl | (simp [errW_none, errW_some] <;> rfl) | (simp [*, errW_none, errW_some] <;> rfl), by (with_reducible repeat (first | apply Kd.R_alloc | apply Kd.R_drewN | apply Kd.R_drew)); exact Kd.R_mono (Kd.R_far (p := ⟨gb309, 1, none⟩) (Kd.R_far (p := ⟨gb309, 0, none⟩) (Kd.R_types HO_323000.out BK309.out (by decide)) (fun _ hk => hk.2) (.slice Ao9 t314.length co9)) (fun _ hk => hk.2) (.slice Ao13 t317.length co13)) (fun _ hk => hk.1), by (with_reducible repeat (first | apply Kd.R_alloc | apply Kd.R_drewN | apply Kd.R_drew)); exact Kd.R_mono (Kd.R_far (p := ⟨gb309, 1, none⟩) (Kd.R_far (p := ⟨gb309, 0, none⟩) (Kd.R_types HO_323001.out BK309.out (by decide)) (fun _ hk => hk.2) (.slice Ao9 t314.length co9)) (fun _ hk => hk.2) (.slice Ao13 t317.length co13)) (fun _ hk => hk.1), bn HB.out⟩

/-! ### spec_DrawIsRibbon: function 9 -/
def spec_DrawIsRibbon.f (k : Nat) (l0 : List Int) : Option (List Int × List Int) := (spec_l4Strip.f k l0).bind fun bt335 => (some (bt335.1, bt335.2))
theorem spec_DrawIsRibbon.mono : ∀ a0 k, LeO (spec_DrawIsRibbon.f k a0) (spec_DrawIsRibbon.f (k + 1) a0) := by
 intro a0 k
 unfold spec_DrawIsRibbon.f
 repeat' first
   | (with_reducible exact spec_l4Strip.mono _ _)
   | (with_reducible exact LeO.refl _)
   | (with_reducible exact LeO.none _)
   | (with_reducible refine LeO.ite ?_ ?_)
   | (with_reducible refine LeO.bind ?_ (fun _ => ?_))
   | exact spec_l4Strip.mono _ _
   | exact LeO.none _
   | refine LeO.ite ?_ ?_
   | refine LeO.bind ?_ (fun _ => ?_)
set_option maxHeartbeats 8000000 in
set_option maxRecDepth 100000 in
theorem spec_DrawIsRibbon.calls (k : Nat) (A0 : Option Addr) (c0 : Nat) (l0 : List Int) (r1 : List Int) (r2 : List Int) (w : World) (hr0 : Kd.C (Kd.int .u8) w A0 l0.length l0) (hc0 : l0.length ≤ c0) (h : spec_DrawIsRibbon.f k l0 = some (r1, r2)) :
  Calls Tryz.prog 9 #[.slice A0 l0.length c0] w fun e w' => ∃ v0_ v1_ : Value, e = .returned (.agg #[v0_, v1_]) ∧ Kd.R (Kd.int .i64) 3 w' w.heap.size (fun k_ => some k_ ≠ (v1_ : Value).ownBlock) v0_ r1 ∧ Kd.R (Kd.int .i64) 3 w' w.heap.size (fun k_ => some k_ ≠ (v0_ : Value).ownBlock) v1_ r2 ∧ Below w.heap.size w w' := by
 have hu26 := Tryz.underlying26
 have HR0 := Aside0.mk hr0
 have HC0 := Aside0.mk hc0
 clear hr0 hc0
 have HB := Aside0.mk (Below.refl w.heap.size w)
 have H : ((spec_l4Strip.f k l0).bind fun bt335 => (some (bt335.1, bt335.2))) = some (r1, r2) := h
 clear h
 replace H := Option.bind_eq_some_iff.mp H
 obtain ⟨⟨t335, t338⟩, A20, H⟩ := H
 replace H : (some (t335, t338)) = some (r1, r2) := H
 have A2 := Aside0.mk A20
 clear A20
 simp only [Option.some.injEq, Prod.mk.injEq] at H
 obtain ⟨rfl, rfl⟩ := H
 go_enter Tryz.func9, Tryz.ntmps9
 go_wp2_with (first | (refine boxE 2 #[.slice none 0 0, .slice none 0 0] 26 rfl ?_; intro gb334 hg w3 hbox hb; have BK334 := Aside0.mk (hbox); have GW334 := Aside0.mk ((by rw [hg]; exact (below_size bnow) : w.heap.size ≤ gb334)); have GE334 := Aside0.mk ((by rw [hg]; exact (below_size bnow) : w.heap.size ≤ gb334)); replace HB := Aside0.mk (below_step bnow hb); clear hb hbox hg) | ((with_reducible refine gate_callee (f := 34) rfl ?_); refine goesL_ (some 4) rfl rfl Tryz.func34 (by kernel_rfl) rfl #[.slice A0 l0.length c0] rfl lm ?_; (with_reducible refine (spec_l4Strip.calls k _ _ l0 t335 t338 _ (cb HR0.out) HC0.out A2.out).mono ?_); rintro e w4 ⟨v336, v339, rfl, ho0, ho1, hb⟩; refine ⟨_, rfl, ?_⟩; have HO337 := Aside0.mk (Kd.R_lower ho0 (below_size (bn HB.out))); have HO340 := Aside0.mk (Kd.R_lower ho1 (below_size (bn HB.out))); replace BK334 := Aside0.mk (blk_below (bk BK334.out) hb); replace HB := Aside0.mk (below_step (bn HB.out) hb); (try clear hb); (try clear hb2); (try clear hk); (try clear hi); (try clear ho0); (try clear ho1); obtain ⟨Ao5, co5, eo5⟩ := Kd.R_slice HO337.out; subst eo5; have hcz6_0 : w4.cell? ⟨gb334, 0, none⟩ = some (.slice none 0 0) := (blk_cell BK334.out 0).trans rfl; have hcz6_1 : w4.cell? ⟨gb334, 1, none⟩ = some (.slice none 0 0) := (blk_cell BK334.out 1).trans rfl; have hfz6_0 := blk_frozen BK334.out 0; have hfz6_1 := blk_frozen BK334.out 1; obtain ⟨Ao7, co7, eo7⟩ := Kd.R_slice HO340.out; subst eo7))
 refine bodyPost_ret (results_cell_row rfl _ _ gb334 26 #[.slice Ao5 t335.length co5, .slice Ao7 t338.length co7] (0, 0) _ rfl (by (with_reducible repeat (first | refine blk_drewN ?_ _ | refine blk_drew ?_ | refine blk_alloc ?_ _)); refine blk_put (cs := #[.slice Ao5 t335.length co5, .slice none 0 0]) ?_ 1 _ rfl; (with_reducible repeat (first | refine blk_drewN ?_ _ | refine blk_drew ?_ | refine blk_alloc ?_ _)); refine blk_put (cs := #[.slice none 0 0, .slice none 0 0]) ?_ 0 _ rfl; (with_reducible repeat (first | refine blk_drewN ?_ _ | refine blk_drew ?_ | refine blk_alloc ?_ _)); exact BK334.out) Tryz.underlying26 rfl (by kernel_rfl)) rfl ?_
 exact ⟨_, _, by first | rfl | (simp [errW_none, errW_some] <;> rfl) | (simp [*, errW_none, errW_some] <;> rfl), by (with_reducible repeat (first | apply Kd.R_alloc | apply Kd.R_drewN | apply Kd.R_drew)); exact Kd.R_mono (Kd.R_far (p := ⟨gb334, 1, none⟩) (Kd.R_far (p := ⟨gb334, 0, none⟩) (Kd.R_types HO337.out BK334.out (by decide)) (fun _ hk => hk.2) (.slice Ao5 t335.length co5)) (fun _ hk => hk.2) (.slice Ao7 t338.length co7)) (fun _ hk => hk.1), by (with_reducible repeat (first | apply Kd.R_alloc | apply Kd.R_drewN | apply Kd.R_drew)); exact Kd.R_mono (Kd.R_far (p := ⟨gb334, 1, none⟩) (Kd.R_far (p := ⟨gb334, 0, none⟩) (Kd.R_types HO340.out BK334.out (by decide)) (fun _ hk => hk.2) (.slice Ao5 t335.length co5)) (fun _ hk => hk.2) (.slice Ao7 t338.length co7)) (fun _ hk => hk.1), bn HB.out⟩

end Go.Proofs.YtkbomfpebhjaoaaGreatDoor.QFnShapes
