/- A text of this session's own program (wip/myprint.py): functions that the law FnShapes reaches, as plain Lean functions, each with the proof that the call does just that. No condition beyond those that each statement bears. -/
import Derived.Test.YtkbomfpebhjaoaaGreatDoorQFnShapesx0
import Derived.Test.YtkbomfpebhjaoaaGreatDoorQFnShapesx2
import Derived.Test.YtkbomfpebhjaoaaGreatDoorQFnShapesx3
import Derived.Test.YtkbomfpebhjaoaaGreatDoorQFnShapesx4
import Derived.Test.YtkbomfpebhjaoaaGreatDoorQFnShapesx11
namespace Go.Proofs.YtkbomfpebhjaoaaGreatDoor.QFnShapes
open Go.Proofs.YtkbomfpebhjaoaaGreatDoor.Short Go.RowKit Go.Proofs.YtkbomfpebhjaoaaGreatDoorW.PrintWords Go.Proofs.YtkbomfpebhjaoaaGreatDoorW.PrintLast Go.Proofs.YtkbomfpebhjaoaaGreatDoorW.PrintMore
attribute [local go_sem] max2_int min2_int max_two min_two max_three min_three max_four min_four   -- for this text's walks alone
set_option linter.unusedVariables false
set_option linter.unusedSimpArgs false

/-! ### impl_IsVerticalStrip: function 17 -/
def impl_IsVerticalStrip.l0 : Nat → List Int → Int → Int → List Int → List Int → Option (Bool)
 | 0, _, _, _, _, _ => none
 | k + 1, x9, x10, x11, x559000, x559001 => if x11 < x10 then (if 0 ≤ x11 then (if x11 < (x9.length : Int) then ((impl_at.f x559001 x11).bind fun t561 => (if (wrap64 ((rd x9 x11) - t561)) > 1 then (some false) else (impl_IsVerticalStrip.l0 k x9 x10 (wrap64 (x11 + 1)) x559000 x559001))) else (none)) else (none)) else (some true)
def impl_IsVerticalStrip.f (k : Nat) (l0_0 : List Int) (l0_1 : List Int) : Option (Bool) := (impl_IsShape.f k l0_0 l0_1).bind fun t559 => (if t559 = true then (impl_IsVerticalStrip.l0 k l0_0 (l0_0.length : Int) 0 l0_0 l0_1) else (some false))
theorem impl_IsVerticalStrip.mono_l : ∀ k, (∀ y0 y1 y2 y3 y4, LeO (impl_IsVerticalStrip.l0 k y0 y1 y2 y3 y4) (impl_IsVerticalStrip.l0 (k + 1) y0 y1 y2 y3 y4))
 | 0 => fun _ _ _ _ _ r h => by simp [impl_IsVerticalStrip.l0] at h
 | k + 1 => by
  have ih0 := impl_IsVerticalStrip.mono_l k
  ·intro y0 y1 y2 y3 y4
   unfold impl_IsVerticalStrip.l0
   repeat' first
   | (with_reducible exact ih0 _ _ _ _ _)
   | (with_reducible exact impl_IsShape.mono _ _ _)
   | (with_reducible exact LeO.refl _)
   | (with_reducible exact LeO.none _)
   | (with_reducible refine LeO.ite ?_ ?_)
   | (with_reducible refine LeO.bind ?_ (fun _ => ?_))
   | exact ih0 _ _ _ _ _
   | exact impl_IsShape.mono _ _ _
   | exact LeO.none _
   | refine LeO.ite ?_ ?_
   | refine LeO.bind ?_ (fun _ => ?_)
theorem impl_IsVerticalStrip.mono : ∀ a0 a1 k, LeO (impl_IsVerticalStrip.f k a0 a1) (impl_IsVerticalStrip.f (k + 1) a0 a1) := by
 intro a0 a1 k
 have ih0 := impl_IsVerticalStrip.mono_l k
 unfold impl_IsVerticalStrip.f
 repeat' first
   | (with_reducible exact ih0 _ _ _ _ _)
   | (with_reducible exact impl_IsShape.mono _ _ _)
   | (with_reducible exact LeO.refl _)
   | (with_reducible exact LeO.none _)
   | (with_reducible refine LeO.ite ?_ ?_)
   | (with_reducible refine LeO.bind ?_ (fun _ => ?_))
   | exact ih0 _ _ _ _ _
   | exact impl_IsShape.mono _ _ _
   | exact LeO.none _
   | refine LeO.ite ?_ ?_
   | refine LeO.bind ?_ (fun _ => ?_)
set_option maxHeartbeats 8000000 in
set_option maxRecDepth 100000 in
theorem impl_IsVerticalStrip.calls (k : Nat) (A0_0 : Option Addr) (c0_0 : Nat) (l0_0 : List Int) (A0_1 : Option Addr) (c0_1 : Nat) (l0_1 : List Int) (r : Bool) (w : World) (hr0_0 : Kd.C (Kd.int .i64) w A0_0 l0_0.length l0_0) (hc0_0 : l0_0.length ≤ c0_0) (hr0_1 : Kd.C (Kd.int .i64) w A0_1 l0_1.length l0_1) (hc0_1 : l0_1.length ≤ c0_1) (h : impl_IsVerticalStrip.f k l0_0 l0_1 = some r) :
  Calls Tryz.prog 17 #[.agg #[.slice A0_0 l0_0.length c0_0, .slice A0_1 l0_1.length c0_1]] w fun e w' => e = .returned (.bool r) ∧ Below w.heap.size w w' := by
 have hu26 := Tryz.underlying26
 have HR0_0 := Aside0.mk hr0_0
 have HC0_0 := Aside0.mk hc0_0
 clear hr0_0 hc0_0
 have HR0_1 := Aside0.mk hr0_1
 have HC0_1 := Aside0.mk hc0_1
 clear hr0_1 hc0_1
 have HB := Aside0.mk (Below.refl w.heap.size w)
 have H : ((impl_IsShape.f k l0_0 l0_1).bind fun t559 => (if t559 = true then (impl_IsVerticalStrip.l0 k l0_0 (l0_0.length : Int) 0 l0_0 l0_1) else (some false))) = some r := h
 clear h
 replace H := Option.bind_eq_some_iff.mp H
 obtain ⟨t559, A20, H⟩ := H
 replace H : (if t559 = true then (impl_IsVerticalStrip.l0 k l0_0 (l0_0.length : Int) 0 l0_0 l0_1) else (some false)) = some r := H
 have A2 := Aside0.mk A20
 clear A20
 by_cases c3 : t559 = true
 ·subst c3
  have H1 : (impl_IsVerticalStrip.l0 k l0_0 (l0_0.length : Int) 0 l0_0 l0_1) = some r := by rw [if_pos rfl] at H; exact H
  clear H
  have H := H1
  clear H1
  have H' := Aside0.mk H
  clear H
  go_enter Tryz.func17, Tryz.ntmps17
  go_wp2_with (first | (refine boxE 1 #[.slice A0_0 l0_0.length c0_0, .slice A0_1 l0_1.length c0_1] 26 rfl ?_; intro gb558 hg w4 hbox hb; have BK558 := Aside0.mk (hbox); have GW558 := Aside0.mk ((by rw [hg]; exact (below_size bnow) : w.heap.size ≤ gb558)); have GE558 := Aside0.mk ((by rw [hg]; exact (below_size bnow) : w.heap.size ≤ gb558)); replace HB := Aside0.mk (below_step bnow hb); clear hb hbox hg; have hcz5_0 : w4.cell? ⟨gb558, 0, none⟩ = some (.slice A0_0 l0_0.length c0_0) := (blk_cell BK558.out 0).trans rfl; have hcz5_1 : w4.cell? ⟨gb558, 1, none⟩ = some (.slice A0_1 l0_1.length c0_1) := (blk_cell BK558.out 1).trans rfl; have hfz5_0 := blk_frozen BK558.out 0; have hfz5_1 := blk_frozen BK558.out 1) | ((with_reducible refine gate_callee (f := 24) rfl ?_); refine goesL_ (some 6) rfl rfl Tryz.func24 (by kernel_rfl) rfl #[.agg #[.slice A0_0 l0_0.length c0_0, .slice A0_1 l0_1.length c0_1]] rfl lm ?_; (with_reducible refine (impl_IsShape.calls k _ _ l0_0 _ _ l0_1 true _ (cb HR0_0.out) HC0_0.out (cb HR0_1.out) HC0_1.out A2.out).mono ?_); rintro e w6 ⟨rfl, hb⟩; refine ⟨_, rfl, ?_⟩; replace BK558 := Aside0.mk (blk_below (bk BK558.out) hb); replace HB := Aside0.mk (below_step (bn HB.out) hb); (try clear hb); (try clear hb2); (try clear hk); (try clear hi); have hcz7_0 : w6.cell? ⟨gb558, 0, none⟩ = some (.slice A0_0 l0_0.length c0_0) := (blk_cell BK558.out 0).trans rfl; have hcz7_1 : w6.cell? ⟨gb558, 1, none⟩ = some (.slice A0_1 l0_1.length c0_1) := (blk_cell BK558.out 1).trans rfl; have hfz7_0 := blk_frozen BK558.out 0; have hfz7_1 := blk_frozen BK558.out 1))
  go_loopg [11] k (fun kq v11 w' => ∃ (x11_1 : Int), v11 = .int .i64 x11_1 ∧ Aside0 (impl_IsVerticalStrip.l0 kq l0_0 (l0_0.length : Int) x11_1 l0_0 l0_1 = some r) ∧ Aside0 (kq ≤ k) ∧ Aside0 (w'.heap[gb558]? = some (.cells #[(.slice A0_0 l0_0.length c0_0), (.slice A0_1 l0_1.length c0_1)] 26 (0, 0))) ∧ Aside0 (Below w.heap.size w w'))
  case atStart => exact ⟨(0), (by first | rfl | (simp; done) | (simp [*]; done)), H', ⟨Nat.le_refl _⟩, ⟨bk BK558.out⟩, ⟨bn HB.out⟩⟩
  case round =>
   clear H'
   try clear c1
   try clear c2
   try clear p2
   try clear c3
   try clear hcz5_0
   try clear hcz5_1
   try clear hcz7_0
   try clear hcz7_1
   try clear hfz5_0
   try clear hfz5_1
   try clear hfz7_0
   try clear hfz7_1
   obtain ⟨x11_1, rfl, HA, HK1, BK558, HB⟩ := hrel
   cases gk with
   | zero => exact absurd HA.out (by simp [impl_IsVerticalStrip.l0])
   | succ k1 =>
    have H := HA.out
    clear HA
    simp only [impl_IsVerticalStrip.l0] at H
    by_cases c8 : x11_1 < (l0_0.length : Int)
    ·rw [if_pos c8] at H
     have c8b0 : decide (x11_1 < (l0_0.length : Int)) = true := decide_eq_true c8
     clear c8
     by_cases c9 : 0 ≤ x11_1
     ·rw [if_pos c9] at H
      have c9b0 : decide (0 ≤ x11_1) = true := decide_eq_true c9
      clear c9
      by_cases c10 : x11_1 < (l0_0.length : Int)
      ·rw [if_pos c10] at H
       have c10b0 : decide (x11_1 < (l0_0.length : Int)) = true := decide_eq_true c10
       clear c10
       replace H := Option.bind_eq_some_iff.mp H
       obtain ⟨t561, A110, H⟩ := H
       replace H : (if (wrap64 ((rd l0_0 x11_1) - t561)) > 1 then (some false) else (impl_IsVerticalStrip.l0 k1 l0_0 (l0_0.length : Int) (wrap64 (x11_1 + 1)) l0_0 l0_1)) = some r := H
       have A11 := Aside0.mk A110
       clear A110
       by_cases c12 : (wrap64 ((rd l0_0 x11_1) - t561)) > 1
       ·rw [if_pos c12] at H
        have c12b0 : decide (1 < (wrap64 ((rd l0_0 x11_1) - t561))) = true := decide_eq_true c12
        clear c12
        obtain rfl := Option.some.inj H
        have p560 : 0 ≤ (x11_1 : Int) := of_decide_eq_true asm
        have q560 : x11_1 < (l0_0.length : Int) := of_decide_eq_true asm
        obtain ⟨ad560, e560, hx560_0⟩ := Kd.at_int HR0_0.out x11_1 p560 q560
        cases e560
        (first | replace hx560_0 := (HB.out.cell (World.block_lt_of_cell? w _ hx560_0)).trans hx560_0 | skip)
        replace p560 := eq_true p560
        replace q560 := eq_true q560
        have hcz13_0 : wr.cell? ⟨gb558, 0, none⟩ = some (.slice (some ad560) l0_0.length c0_0) := (blk_cell BK558.out 0).trans rfl
        have hcz13_1 : wr.cell? ⟨gb558, 1, none⟩ = some (.slice A0_1 l0_1.length c0_1) := (blk_cell BK558.out 1).trans rfl
        have hfz13_0 := blk_frozen BK558.out 0
        have hfz13_1 := blk_frozen BK558.out 1
        go_wp2_with (first | ((with_reducible refine gate_callee (f := 43) rfl ?_); refine goesL_ (some 20) rfl rfl Tryz.func43 (by kernel_rfl) rfl #[.slice A0_1 l0_1.length c0_1, .int .i64 x11_1] rfl lm ?_; (with_reducible refine (impl_at.calls _ _ l0_1 x11_1 t561 _ (cb HR0_1.out) HC0_1.out A11.out).mono ?_); rintro e w' ⟨rfl, ⟨nd, rfl⟩⟩; refine ⟨_, rfl, ?_⟩))
        go_ret
        exact ⟨by first | rfl | (simp [errW_none, errW_some] <;> rfl) | (simp [*, errW_none, errW_some] <;> rfl), bn HB.out⟩
       ·rw [if_neg c12] at H
        have c12b0 : decide (1 < (wrap64 ((rd l0_0 x11_1) - t561))) = false := decide_eq_false c12
        clear c12
        have H' := Aside0.mk H
        clear H
        have p560 : 0 ≤ (x11_1 : Int) := of_decide_eq_true asm
        have q560 : x11_1 < (l0_0.length : Int) := of_decide_eq_true asm
        obtain ⟨ad560, e560, hx560_0⟩ := Kd.at_int HR0_0.out x11_1 p560 q560
        cases e560
        (first | replace hx560_0 := (HB.out.cell (World.block_lt_of_cell? w _ hx560_0)).trans hx560_0 | skip)
        replace p560 := eq_true p560
        replace q560 := eq_true q560
        have hcz14_0 : wr.cell? ⟨gb558, 0, none⟩ = some (.slice (some ad560) l0_0.length c0_0) := (blk_cell BK558.out 0).trans rfl
        have hcz14_1 : wr.cell? ⟨gb558, 1, none⟩ = some (.slice A0_1 l0_1.length c0_1) := (blk_cell BK558.out 1).trans rfl
        have hfz14_0 := blk_frozen BK558.out 0
        have hfz14_1 := blk_frozen BK558.out 1
        go_wp2_with (first | ((with_reducible refine gate_callee (f := 43) rfl ?_); refine goesL_ (some 20) rfl rfl Tryz.func43 (by kernel_rfl) rfl #[.slice A0_1 l0_1.length c0_1, .int .i64 x11_1] rfl lm ?_; (with_reducible refine (impl_at.calls _ _ l0_1 x11_1 t561 _ (cb HR0_1.out) HC0_1.out A11.out).mono ?_); rintro e w' ⟨rfl, ⟨nd, rfl⟩⟩; refine ⟨_, rfl, ?_⟩))
        go_roundg k1
        case measure => have := HK1.out; omega
        case rel => exact ⟨(wrap64 (x11_1 + 1)), (by first | rfl | (simp; done) | (simp [*]; done)), H', ⟨by have := HK1.out; omega⟩, ⟨bk BK558.out⟩, ⟨bn HB.out⟩⟩
      ·rw [if_neg c10] at H
       exact absurd H (by simp)
     ·rw [if_neg c9] at H
      exact absurd H (by simp)
    ·rw [if_neg c8] at H
     have c8b0 : decide (x11_1 < (l0_0.length : Int)) = false := decide_eq_false c8
     clear c8
     obtain rfl := Option.some.inj H
     go_wp2
     go_ret
     exact ⟨by first | rfl | (simp [errW_none, errW_some] <;> rfl) | (simp [*, errW_none, errW_some] <;> rfl), bn HB.out⟩
 ·replace c3 := Bool.eq_false_iff.mpr c3
  subst c3
  have H1 : (some false) = some r := by rw [if_neg (show ¬ (false = true) by decide)] at H; exact H
  clear H
  have H := H1
  clear H1
  obtain rfl := Option.some.inj H
  go_enter Tryz.func17, Tryz.ntmps17
  go_wp2_with (first | (refine boxE 1 #[.slice A0_0 l0_0.length c0_0, .slice A0_1 l0_1.length c0_1] 26 rfl ?_; intro gb558 hg w15 hbox hb; have BK558 := Aside0.mk (hbox); have GW558 := Aside0.mk ((by rw [hg]; exact (below_size bnow) : w.heap.size ≤ gb558)); have GE558 := Aside0.mk ((by rw [hg]; exact (below_size bnow) : w.heap.size ≤ gb558)); replace HB := Aside0.mk (below_step bnow hb); clear hb hbox hg; have hcz16_0 : w15.cell? ⟨gb558, 0, none⟩ = some (.slice A0_0 l0_0.length c0_0) := (blk_cell BK558.out 0).trans rfl; have hcz16_1 : w15.cell? ⟨gb558, 1, none⟩ = some (.slice A0_1 l0_1.length c0_1) := (blk_cell BK558.out 1).trans rfl; have hfz16_0 := blk_frozen BK558.out 0; have hfz16_1 := blk_frozen BK558.out 1) | ((with_reducible refine gate_callee (f := 24) rfl ?_); refine goesL_ (some 6) rfl rfl Tryz.func24 (by kernel_rfl) rfl #[.agg #[.slice A0_0 l0_0.length c0_0, .slice A0_1 l0_1.length c0_1]] rfl lm ?_; (with_reducible refine (impl_IsShape.calls k _ _ l0_0 _ _ l0_1 false _ (cb HR0_0.out) HC0_0.out (cb HR0_1.out) HC0_1.out A2.out).mono ?_); rintro e w17 ⟨rfl, hb⟩; refine ⟨_, rfl, ?_⟩; replace BK558 := Aside0.mk (blk_below (bk BK558.out) hb); replace HB := Aside0.mk (below_step (bn HB.out) hb); (try clear hb); (try clear hb2); (try clear hk); (try clear hi)))
  go_ret
  exact ⟨by first | rfl | (simp [errW_none, errW_some] <;> rfl) | (simp [*, errW_none, errW_some] <;> rfl), bn HB.out⟩

/-! ### spec_IsVerticalStrip: function 18 -/
def spec_IsVerticalStrip.l0 : Nat → Int → List Int → List Int → Option (Bool)
 | 0, _, _, _ => none
 | k + 1, x3, x563000, x563001 => if x3 < (x563000.length : Int) then (if 0 ≤ x3 then ((spec_l2At.f x563001 x3).bind fun t564 => (if (rd x563000 x3) > (wrap64 (t564 + 1)) then (some false) else (spec_IsVerticalStrip.l0 k (wrap64 (x3 + 1)) x563000 x563001))) else (none)) else ((spec_IsShape.f k x563000 x563001).bind fun t565 => (some t565))
def spec_IsVerticalStrip.f (k : Nat) (l0_0 : List Int) (l0_1 : List Int) : Option (Bool) := spec_IsVerticalStrip.l0 k 0 l0_0 l0_1
theorem spec_IsVerticalStrip.mono_l : ∀ k, (∀ y0 y1 y2, LeO (spec_IsVerticalStrip.l0 k y0 y1 y2) (spec_IsVerticalStrip.l0 (k + 1) y0 y1 y2))
 | 0 => fun _ _ _ r h => by simp [spec_IsVerticalStrip.l0] at h
 | k + 1 => by
  have ih0 := spec_IsVerticalStrip.mono_l k
  ·intro y0 y1 y2
   unfold spec_IsVerticalStrip.l0
   repeat' first
   | (with_reducible exact ih0 _ _ _)
   | (with_reducible exact spec_IsShape.mono _ _ _)
   | (with_reducible exact LeO.refl _)
   | (with_reducible exact LeO.none _)
   | (with_reducible refine LeO.ite ?_ ?_)
   | (with_reducible refine LeO.bind ?_ (fun _ => ?_))
   | exact ih0 _ _ _
   | exact spec_IsShape.mono _ _ _
   | exact LeO.none _
   | refine LeO.ite ?_ ?_
   | refine LeO.bind ?_ (fun _ => ?_)
theorem spec_IsVerticalStrip.mono : ∀ a0 a1 k, LeO (spec_IsVerticalStrip.f k a0 a1) (spec_IsVerticalStrip.f (k + 1) a0 a1) := by
 intro a0 a1 k
 have ih0 := spec_IsVerticalStrip.mono_l k
 unfold spec_IsVerticalStrip.f
 repeat' first
   | (with_reducible exact ih0 _ _ _)
   | (with_reducible exact spec_IsShape.mono _ _ _)
   | (with_reducible exact LeO.refl _)
   | (with_reducible exact LeO.none _)
   | (with_reducible refine LeO.ite ?_ ?_)
   | (with_reducible refine LeO.bind ?_ (fun _ => ?_))
   | exact ih0 _ _ _
   | exact spec_IsShape.mono _ _ _
   | exact LeO.none _
   | refine LeO.ite ?_ ?_
   | refine LeO.bind ?_ (fun _ => ?_)
set_option maxHeartbeats 8000000 in
set_option maxRecDepth 100000 in
theorem spec_IsVerticalStrip.calls (k : Nat) (A0_0 : Option Addr) (c0_0 : Nat) (l0_0 : List Int) (A0_1 : Option Addr) (c0_1 : Nat) (l0_1 : List Int) (r : Bool) (w : World) (hr0_0 : Kd.C (Kd.int .i64) w A0_0 l0_0.length l0_0) (hc0_0 : l0_0.length ≤ c0_0) (hr0_1 : Kd.C (Kd.int .i64) w A0_1 l0_1.length l0_1) (hc0_1 : l0_1.length ≤ c0_1) (h : spec_IsVerticalStrip.f k l0_0 l0_1 = some r) :
  Calls Tryz.prog 18 #[.agg #[.slice A0_0 l0_0.length c0_0, .slice A0_1 l0_1.length c0_1]] w fun e w' => e = .returned (.bool r) ∧ Below w.heap.size w w' := by
 have hu26 := Tryz.underlying26
 have HR0_0 := Aside0.mk hr0_0
 have HC0_0 := Aside0.mk hc0_0
 clear hr0_0 hc0_0
 have HR0_1 := Aside0.mk hr0_1
 have HC0_1 := Aside0.mk hc0_1
 clear hr0_1 hc0_1
 have HB := Aside0.mk (Below.refl w.heap.size w)
 have H : (spec_IsVerticalStrip.l0 k 0 l0_0 l0_1) = some r := h
 clear h
 have H' := Aside0.mk H
 clear H
 go_enter Tryz.func18, Tryz.ntmps18
 go_wp2_with (first | (refine boxE 1 #[.slice A0_0 l0_0.length c0_0, .slice A0_1 l0_1.length c0_1] 26 rfl ?_; intro gb562 hg w2 hbox hb; have BK562 := Aside0.mk (hbox); have GW562 := Aside0.mk ((by rw [hg]; exact (below_size bnow) : w.heap.size ≤ gb562)); have GE562 := Aside0.mk ((by rw [hg]; exact (below_size bnow) : w.heap.size ≤ gb562)); replace HB := Aside0.mk (below_step bnow hb); clear hb hbox hg))
 repeat (go_quiet (first | (refine boxE 1 #[.slice A0_0 l0_0.length c0_0, .slice A0_1 l0_1.length c0_1] 26 rfl ?_; intro gb562 hg w2 hbox hb; have BK562 := Aside0.mk (hbox); have GW562 := Aside0.mk ((by rw [hg]; exact (below_size bnow) : w.heap.size ≤ gb562)); have GE562 := Aside0.mk ((by rw [hg]; exact (below_size bnow) : w.heap.size ≤ gb562)); replace HB := Aside0.mk (below_step bnow hb); clear hb hbox hg)); try go_wp2_with (first | (refine boxE 1 #[.slice A0_0 l0_0.length c0_0, .slice A0_1 l0_1.length c0_1] 26 rfl ?_; intro gb562 hg w2 hbox hb; have BK562 := Aside0.mk (hbox); have GW562 := Aside0.mk ((by rw [hg]; exact (below_size bnow) : w.heap.size ≤ gb562)); have GE562 := Aside0.mk ((by rw [hg]; exact (below_size bnow) : w.heap.size ≤ gb562)); replace HB := Aside0.mk (below_step bnow hb); clear hb hbox hg)))
 go_loopg [3] k (fun kq v3 w' => ∃ (x3_1 : Int), v3 = .int .i64 x3_1 ∧ Aside0 (spec_IsVerticalStrip.l0 kq x3_1 l0_0 l0_1 = some r) ∧ Aside0 (kq ≤ k) ∧ Aside0 (w'.heap[gb562]? = some (.cells #[(.slice A0_0 l0_0.length c0_0), (.slice A0_1 l0_1.length c0_1)] 26 (0, 0))) ∧ Aside0 (Below w.heap.size w w'))
 case atStart => exact ⟨(0), (by first | rfl | (simp; done) | (simp [*]; done)), H', ⟨Nat.le_refl _⟩, ⟨bk BK562.out⟩, ⟨bn HB.out⟩⟩
 case round =>
  clear H'
  try clear c1
  try clear p2
  obtain ⟨x3_1, rfl, HA, HK1, BK562, HB⟩ := hrel
  cases gk with
  | zero => exact absurd HA.out (by simp [spec_IsVerticalStrip.l0])
  | succ k1 =>
   have H := HA.out
   clear HA
   simp only [spec_IsVerticalStrip.l0] at H
   by_cases c3 : x3_1 < (l0_0.length : Int)
   ·rw [if_pos c3] at H
    have c3b0 : decide (x3_1 < (l0_0.length : Int)) = true := decide_eq_true c3
    clear c3
    by_cases c4 : 0 ≤ x3_1
    ·rw [if_pos c4] at H
     have c4b0 : decide (0 ≤ x3_1) = true := decide_eq_true c4
     clear c4
     replace H := Option.bind_eq_some_iff.mp H
     obtain ⟨t564, A50, H⟩ := H
     replace H : (if (rd l0_0 x3_1) > (wrap64 (t564 + 1)) then (some false) else (spec_IsVerticalStrip.l0 k1 (wrap64 (x3_1 + 1)) l0_0 l0_1)) = some r := H
     have A5 := Aside0.mk A50
     clear A50
     by_cases c6 : (rd l0_0 x3_1) > (wrap64 (t564 + 1))
     ·rw [if_pos c6] at H
      have c6b0 : decide ((wrap64 (t564 + 1)) < (rd l0_0 x3_1)) = true := decide_eq_true c6
      clear c6
      obtain rfl := Option.some.inj H
      have hcz7_0 : wr.cell? ⟨gb562, 0, none⟩ = some (.slice A0_0 l0_0.length c0_0) := (blk_cell BK562.out 0).trans rfl
      have hcz7_1 : wr.cell? ⟨gb562, 1, none⟩ = some (.slice A0_1 l0_1.length c0_1) := (blk_cell BK562.out 1).trans rfl
      have hfz7_0 := blk_frozen BK562.out 0
      have hfz7_1 := blk_frozen BK562.out 1
      have p563 : 0 ≤ (x3_1 : Int) := of_decide_eq_true asm
      have q563 : x3_1 < (l0_0.length : Int) := of_decide_eq_true asm
      obtain ⟨ad563, e563, hx563_0⟩ := Kd.at_int HR0_0.out x3_1 p563 q563
      cases e563
      (first | replace hx563_0 := (HB.out.cell (World.block_lt_of_cell? w _ hx563_0)).trans hx563_0 | skip)
      replace p563 := eq_true p563
      replace q563 := eq_true q563
      go_wp2_with (first | (go_at_call 44; (with_reducible refine (spec_l2At.calls _ _ l0_1 x3_1 t564 _ (cb HR0_1.out) HC0_1.out A5.out).mono ?_); rintro e w' ⟨rfl, ⟨nd, rfl⟩⟩; (try first | exact ⟨rfl, _, World.drewN_drewN _ _ _⟩ | exact ⟨rfl, _, Eq.trans (World.drewN_drewN _ _ _) (congrArg (World.drewN _) (Nat.add_assoc _ _ _))⟩)))
      repeat (go_quiet (first | (go_at_call 44; (with_reducible refine (spec_l2At.calls _ _ l0_1 x3_1 t564 _ (cb HR0_1.out) HC0_1.out A5.out).mono ?_); rintro e w' ⟨rfl, ⟨nd, rfl⟩⟩; (try first | exact ⟨rfl, _, World.drewN_drewN _ _ _⟩ | exact ⟨rfl, _, Eq.trans (World.drewN_drewN _ _ _) (congrArg (World.drewN _) (Nat.add_assoc _ _ _))⟩))); try go_wp2_with (first | (go_at_call 44; (with_reducible refine (spec_l2At.calls _ _ l0_1 x3_1 t564 _ (cb HR0_1.out) HC0_1.out A5.out).mono ?_); rintro e w' ⟨rfl, ⟨nd, rfl⟩⟩; (try first | exact ⟨rfl, _, World.drewN_drewN _ _ _⟩ | exact ⟨rfl, _, Eq.trans (World.drewN_drewN _ _ _) (congrArg (World.drewN _) (Nat.add_assoc _ _ _))⟩))))
      go_ret
      exact ⟨by first | rfl | (simp [errW_none, errW_some] <;> rfl) | (simp [*, errW_none, errW_some] <;> rfl), bn HB.out⟩
     ·rw [if_neg c6] at H
      have c6b0 : decide ((wrap64 (t564 + 1)) < (rd l0_0 x3_1)) = false := decide_eq_false c6
      clear c6
      have H' := Aside0.mk H
      clear H
      have hcz8_0 : wr.cell? ⟨gb562, 0, none⟩ = some (.slice A0_0 l0_0.length c0_0) := (blk_cell BK562.out 0).trans rfl
      have hcz8_1 : wr.cell? ⟨gb562, 1, none⟩ = some (.slice A0_1 l0_1.length c0_1) := (blk_cell BK562.out 1).trans rfl
      have hfz8_0 := blk_frozen BK562.out 0
      have hfz8_1 := blk_frozen BK562.out 1
      have p563 : 0 ≤ (x3_1 : Int) := of_decide_eq_true asm
      have q563 : x3_1 < (l0_0.length : Int) := of_decide_eq_true asm
      obtain ⟨ad563, e563, hx563_0⟩ := Kd.at_int HR0_0.out x3_1 p563 q563
      cases e563
      (first | replace hx563_0 := (HB.out.cell (World.block_lt_of_cell? w _ hx563_0)).trans hx563_0 | skip)
      replace p563 := eq_true p563
      replace q563 := eq_true q563
      go_wp2_with (first | (go_at_call 44; (with_reducible refine (spec_l2At.calls _ _ l0_1 x3_1 t564 _ (cb HR0_1.out) HC0_1.out A5.out).mono ?_); rintro e w' ⟨rfl, ⟨nd, rfl⟩⟩; (try first | exact ⟨rfl, _, World.drewN_drewN _ _ _⟩ | exact ⟨rfl, _, Eq.trans (World.drewN_drewN _ _ _) (congrArg (World.drewN _) (Nat.add_assoc _ _ _))⟩)))
      repeat (go_quiet (first | (go_at_call 44; (with_reducible refine (spec_l2At.calls _ _ l0_1 x3_1 t564 _ (cb HR0_1.out) HC0_1.out A5.out).mono ?_); rintro e w' ⟨rfl, ⟨nd, rfl⟩⟩; (try first | exact ⟨rfl, _, World.drewN_drewN _ _ _⟩ | exact ⟨rfl, _, Eq.trans (World.drewN_drewN _ _ _) (congrArg (World.drewN _) (Nat.add_assoc _ _ _))⟩))); try go_wp2_with (first | (go_at_call 44; (with_reducible refine (spec_l2At.calls _ _ l0_1 x3_1 t564 _ (cb HR0_1.out) HC0_1.out A5.out).mono ?_); rintro e w' ⟨rfl, ⟨nd, rfl⟩⟩; (try first | exact ⟨rfl, _, World.drewN_drewN _ _ _⟩ | exact ⟨rfl, _, Eq.trans (World.drewN_drewN _ _ _) (congrArg (World.drewN _) (Nat.add_assoc _ _ _))⟩))))
      go_roundg k1
      case measure => have := HK1.out; omega
      case rel => exact ⟨(wrap64 (x3_1 + 1)), (by first | rfl | (simp; done) | (simp [*]; done)), H', ⟨by have := HK1.out; omega⟩, ⟨bk BK562.out⟩, ⟨bn HB.out⟩⟩
    ·rw [if_neg c4] at H
     exact absurd H (by simp)
   ·rw [if_neg c3] at H
    have c3b0 : decide (x3_1 < (l0_0.length : Int)) = false := decide_eq_false c3
    clear c3
    replace H := Option.bind_eq_some_iff.mp H
    obtain ⟨t565, A90, H⟩ := H
    replace H : (some t565) = some r := H
    have A9 := Aside0.mk A90
    clear A90
    obtain rfl := Option.some.inj H
    have hcz10_0 : wr.cell? ⟨gb562, 0, none⟩ = some (.slice A0_0 l0_0.length c0_0) := (blk_cell BK562.out 0).trans rfl
    have hcz10_1 : wr.cell? ⟨gb562, 1, none⟩ = some (.slice A0_1 l0_1.length c0_1) := (blk_cell BK562.out 1).trans rfl
    have hfz10_0 := blk_frozen BK562.out 0
    have hfz10_1 := blk_frozen BK562.out 1
    go_wp2_with (first | (go_at_call 25; (with_reducible refine (spec_IsShape.calls k1 _ _ l0_0 _ _ l0_1 t565 _ (cb HR0_0.out) HC0_0.out (cb HR0_1.out) HC0_1.out A9.out).mono ?_); rintro e w11 ⟨rfl, hb⟩; replace BK562 := Aside0.mk (blk_below (bk BK562.out) hb); replace HB := Aside0.mk (below_step (bn HB.out) hb); (try clear hb); (try clear hb2); (try clear hk); (try clear hi)))
    repeat (go_quiet (first | (go_at_call 25; (with_reducible refine (spec_IsShape.calls k1 _ _ l0_0 _ _ l0_1 t565 _ (cb HR0_0.out) HC0_0.out (cb HR0_1.out) HC0_1.out A9.out).mono ?_); rintro e w11 ⟨rfl, hb⟩; replace BK562 := Aside0.mk (blk_below (bk BK562.out) hb); replace HB := Aside0.mk (below_step (bn HB.out) hb); (try clear hb); (try clear hb2); (try clear hk); (try clear hi))); try go_wp2_with (first | (go_at_call 25; (with_reducible refine (spec_IsShape.calls k1 _ _ l0_0 _ _ l0_1 t565 _ (cb HR0_0.out) HC0_0.out (cb HR0_1.out) HC0_1.out A9.out).mono ?_); rintro e w11 ⟨rfl, hb⟩; replace BK562 := Aside0.mk (blk_below (bk BK562.out) hb); replace HB := Aside0.mk (below_step (bn HB.out) hb); (try clear hb); (try clear hb2); (try clear hk); (try clear hi))))
    go_ret
    exact ⟨by first | rfl | (simp [errW_none, errW_some] <;> rfl) | (simp [*, errW_none, errW_some] <;> rfl), bn HB.out⟩

/-! ### impl_sum: function 50 -/
def impl_sum.l0 : Nat → Int → List Int → Int → Int → Option (Int)
 | 0, _, _, _, _ => none
 | k + 1, x3, x6, x7, x8 => if x8 < x7 then (if 0 ≤ x8 then (if x8 < (x6.length : Int) then (impl_sum.l0 k (wrap64 (x3 + (rd x6 x8))) x6 x7 (wrap64 (x8 + 1))) else (none)) else (none)) else (some x3)
def impl_sum.f (k : Nat) (l0 : List Int) : Option (Int) := impl_sum.l0 k 0 l0 (l0.length : Int) 0
theorem impl_sum.mono_l : ∀ k, (∀ y0 y1 y2 y3, LeO (impl_sum.l0 k y0 y1 y2 y3) (impl_sum.l0 (k + 1) y0 y1 y2 y3))
 | 0 => fun _ _ _ _ r h => by simp [impl_sum.l0] at h
 | k + 1 => by
  have ih0 := impl_sum.mono_l k
  ·intro y0 y1 y2 y3
   unfold impl_sum.l0
   repeat' first
   | (with_reducible exact ih0 _ _ _ _)
   | (with_reducible exact LeO.refl _)
   | (with_reducible exact LeO.none _)
   | (with_reducible refine LeO.ite ?_ ?_)
   | (with_reducible refine LeO.bind ?_ (fun _ => ?_))
   | exact ih0 _ _ _ _
   | exact LeO.none _
   | refine LeO.ite ?_ ?_
   | refine LeO.bind ?_ (fun _ => ?_)
theorem impl_sum.mono : ∀ a0 k, LeO (impl_sum.f k a0) (impl_sum.f (k + 1) a0) := by
 intro a0 k
 have ih0 := impl_sum.mono_l k
 unfold impl_sum.f
 repeat' first
   | (with_reducible exact ih0 _ _ _ _)
   | (with_reducible exact LeO.refl _)
   | (with_reducible exact LeO.none _)
   | (with_reducible refine LeO.ite ?_ ?_)
   | (with_reducible refine LeO.bind ?_ (fun _ => ?_))
   | exact ih0 _ _ _ _
   | exact LeO.none _
   | refine LeO.ite ?_ ?_
   | refine LeO.bind ?_ (fun _ => ?_)
set_option maxHeartbeats 8000000 in
set_option maxRecDepth 100000 in
theorem impl_sum.calls (k : Nat) (A0 : Option Addr) (c0 : Nat) (l0 : List Int) (r : Int) (w : World) (hr0 : Kd.C (Kd.int .i64) w A0 l0.length l0) (hc0 : l0.length ≤ c0) (h : impl_sum.f k l0 = some r) :
  Calls Tryz.prog 50 #[.slice A0 l0.length c0] w fun e w' => e = .returned (.int .i64 r) ∧ Drawn0 w w' := by
 have HR0 := Aside0.mk hr0
 have HC0 := Aside0.mk hc0
 clear hr0 hc0
 have H : (impl_sum.l0 k 0 l0 (l0.length : Int) 0) = some r := h
 clear h
 have H' := Aside0.mk H
 clear H
 go_enter Tryz.func50, Tryz.ntmps50
 go_wp2
 go_loopg [3, 8] k (fun kq v3 v8 w' => ∃ (x3_1 : Int) (x8_1 : Int), v3 = .int .i64 x3_1 ∧ v8 = .int .i64 x8_1 ∧ Aside0 (impl_sum.l0 kq x3_1 l0 (l0.length : Int) x8_1 = some r) ∧ Aside0 (kq ≤ k) ∧ Drawn0 w w')
 case atStart => exact ⟨(0), (0), (by first | rfl | (simp; done) | (simp [*]; done)), (by first | rfl | (simp; done) | (simp [*]; done)), H', ⟨Nat.le_refl _⟩, by repeat (first | exact Drawn0.refl _ | apply Drawn0.step)⟩
 case round =>
  clear H'
  obtain ⟨x3_1, x8_1, rfl, rfl, HA, HK1, ⟨m1, rfl⟩⟩ := hrel
  cases gk with
  | zero => exact absurd HA.out (by simp [impl_sum.l0])
  | succ k1 =>
   have H := HA.out
   clear HA
   simp only [impl_sum.l0] at H
   by_cases c2 : x8_1 < (l0.length : Int)
   ·rw [if_pos c2] at H
    have c2b0 : decide (x8_1 < (l0.length : Int)) = true := decide_eq_true c2
    clear c2
    by_cases c3 : 0 ≤ x8_1
    ·rw [if_pos c3] at H
     have c3b0 : decide (0 ≤ x8_1) = true := decide_eq_true c3
     clear c3
     by_cases c4 : x8_1 < (l0.length : Int)
     ·rw [if_pos c4] at H
      have c4b0 : decide (x8_1 < (l0.length : Int)) = true := decide_eq_true c4
      clear c4
      have H' := Aside0.mk H
      clear H
      have p566 : 0 ≤ (x8_1 : Int) := of_decide_eq_true asm
      have q566 : x8_1 < (l0.length : Int) := of_decide_eq_true asm
      obtain ⟨ad566, e566, hx566_0⟩ := Kd.at_int HR0.out x8_1 p566 q566
      cases e566
      replace p566 := eq_true p566
      replace q566 := eq_true q566
      go_wp2
      go_roundg k1
      case measure => have := HK1.out; omega
      case rel => exact ⟨(wrap64 (x3_1 + (rd l0 x8_1))), (wrap64 (x8_1 + 1)), (by first | rfl | (simp; done) | (simp [*]; done)), (by first | rfl | (simp; done) | (simp [*]; done)), H', ⟨by have := HK1.out; omega⟩, by repeat (first | exact Drawn0.refl _ | apply Drawn0.step)⟩
     ·rw [if_neg c4] at H
      exact absurd H (by simp)
    ·rw [if_neg c3] at H
     exact absurd H (by simp)
   ·rw [if_neg c2] at H
    have c2b0 : decide (x8_1 < (l0.length : Int)) = false := decide_eq_false c2
    clear c2
    obtain rfl := Option.some.inj H
    go_wp2
    go_ret
    exact ⟨by first | rfl | (simp; done) | (simp [*]; done), by repeat (first | exact Drawn0.refl _ | apply Drawn0.step)⟩

/-! ### impl_CellCount: function 26 -/
def impl_CellCount.f (k : Nat) (l0_0 : List Int) (l0_1 : List Int) : Option (Int) := (impl_IsShape.f k l0_0 l0_1).bind fun t568 => (if t568 = true then ((impl_sum.f k l0_0).bind fun t569 => ((impl_sum.f k l0_1).bind fun t570 => (some (wrap64 (t569 - t570))))) else (some (-1)))
theorem impl_CellCount.mono : ∀ a0 a1 k, LeO (impl_CellCount.f k a0 a1) (impl_CellCount.f (k + 1) a0 a1) := by
 intro a0 a1 k
 unfold impl_CellCount.f
 repeat' first
   | (with_reducible exact impl_IsShape.mono _ _ _)
   | (with_reducible exact impl_sum.mono _ _)
   | (with_reducible exact LeO.refl _)
   | (with_reducible exact LeO.none _)
   | (with_reducible refine LeO.ite ?_ ?_)
   | (with_reducible refine LeO.bind ?_ (fun _ => ?_))
   | exact impl_IsShape.mono _ _ _
   | exact impl_sum.mono _ _
   | exact LeO.none _
   | refine LeO.ite ?_ ?_
   | refine LeO.bind ?_ (fun _ => ?_)
set_option maxHeartbeats 8000000 in
set_option maxRecDepth 100000 in
theorem impl_CellCount.calls (k : Nat) (A0_0 : Option Addr) (c0_0 : Nat) (l0_0 : List Int) (A0_1 : Option Addr) (c0_1 : Nat) (l0_1 : List Int) (r : Int) (w : World) (hr0_0 : Kd.C (Kd.int .i64) w A0_0 l0_0.length l0_0) (hc0_0 : l0_0.length ≤ c0_0) (hr0_1 : Kd.C (Kd.int .i64) w A0_1 l0_1.length l0_1) (hc0_1 : l0_1.length ≤ c0_1) (h : impl_CellCount.f k l0_0 l0_1 = some r) :
  Calls Tryz.prog 26 #[.agg #[.slice A0_0 l0_0.length c0_0, .slice A0_1 l0_1.length c0_1]] w fun e w' => e = .returned (.int .i64 r) ∧ Below w.heap.size w w' := by
 have hu26 := Tryz.underlying26
 have HR0_0 := Aside0.mk hr0_0
 have HC0_0 := Aside0.mk hc0_0
 clear hr0_0 hc0_0
 have HR0_1 := Aside0.mk hr0_1
 have HC0_1 := Aside0.mk hc0_1
 clear hr0_1 hc0_1
 have HB := Aside0.mk (Below.refl w.heap.size w)
 have H : ((impl_IsShape.f k l0_0 l0_1).bind fun t568 => (if t568 = true then ((impl_sum.f k l0_0).bind fun t569 => ((impl_sum.f k l0_1).bind fun t570 => (some (wrap64 (t569 - t570))))) else (some (-1)))) = some r := h
 clear h
 replace H := Option.bind_eq_some_iff.mp H
 obtain ⟨t568, A20, H⟩ := H
 replace H : (if t568 = true then ((impl_sum.f k l0_0).bind fun t569 => ((impl_sum.f k l0_1).bind fun t570 => (some (wrap64 (t569 - t570))))) else (some (-1))) = some r := H
 have A2 := Aside0.mk A20
 clear A20
 by_cases c3 : t568 = true
 ·subst c3
  have H1 : ((impl_sum.f k l0_0).bind fun t569 => ((impl_sum.f k l0_1).bind fun t570 => (some (wrap64 (t569 - t570))))) = some r := by rw [if_pos rfl] at H; exact H
  clear H
  have H := H1
  clear H1
  replace H := Option.bind_eq_some_iff.mp H
  obtain ⟨t569, A40, H⟩ := H
  replace H : ((impl_sum.f k l0_1).bind fun t570 => (some (wrap64 (t569 - t570)))) = some r := H
  have A4 := Aside0.mk A40
  clear A40
  replace H := Option.bind_eq_some_iff.mp H
  obtain ⟨t570, A50, H⟩ := H
  replace H : (some (wrap64 (t569 - t570))) = some r := H
  have A5 := Aside0.mk A50
  clear A50
  obtain rfl := Option.some.inj H
  go_enter Tryz.func26, Tryz.ntmps26
  go_wp2_with (first | (refine boxE 1 #[.slice A0_0 l0_0.length c0_0, .slice A0_1 l0_1.length c0_1] 26 rfl ?_; intro gb567 hg w6 hbox hb; have BK567 := Aside0.mk (hbox); have GW567 := Aside0.mk ((by rw [hg]; exact (below_size bnow) : w.heap.size ≤ gb567)); have GE567 := Aside0.mk ((by rw [hg]; exact (below_size bnow) : w.heap.size ≤ gb567)); replace HB := Aside0.mk (below_step bnow hb); clear hb hbox hg; have hcz7_0 : w6.cell? ⟨gb567, 0, none⟩ = some (.slice A0_0 l0_0.length c0_0) := (blk_cell BK567.out 0).trans rfl; have hcz7_1 : w6.cell? ⟨gb567, 1, none⟩ = some (.slice A0_1 l0_1.length c0_1) := (blk_cell BK567.out 1).trans rfl; have hfz7_0 := blk_frozen BK567.out 0; have hfz7_1 := blk_frozen BK567.out 1) | (go_at_call 24; (with_reducible refine (impl_IsShape.calls k _ _ l0_0 _ _ l0_1 true _ (cb HR0_0.out) HC0_0.out (cb HR0_1.out) HC0_1.out A2.out).mono ?_); rintro e w8 ⟨rfl, hb⟩; replace BK567 := Aside0.mk (blk_below (bk BK567.out) hb); replace HB := Aside0.mk (below_step (bn HB.out) hb); (try clear hb); (try clear hb2); (try clear hk); (try clear hi); have hcz9_0 : w8.cell? ⟨gb567, 0, none⟩ = some (.slice A0_0 l0_0.length c0_0) := (blk_cell BK567.out 0).trans rfl; have hcz9_1 : w8.cell? ⟨gb567, 1, none⟩ = some (.slice A0_1 l0_1.length c0_1) := (blk_cell BK567.out 1).trans rfl; have hfz9_0 := blk_frozen BK567.out 0; have hfz9_1 := blk_frozen BK567.out 1) | (go_at_call 50; (with_reducible refine (impl_sum.calls k _ _ l0_0 t569 _ (cb HR0_0.out) HC0_0.out A4.out).mono ?_); rintro e w' ⟨rfl, ⟨nd, rfl⟩⟩; (try first | exact ⟨rfl, _, World.drewN_drewN _ _ _⟩ | exact ⟨rfl, _, Eq.trans (World.drewN_drewN _ _ _) (congrArg (World.drewN _) (Nat.add_assoc _ _ _))⟩)) | (go_at_call 50; (with_reducible refine (impl_sum.calls k _ _ l0_1 t570 _ ?side1 ?side2 A5.out).mono ?_); (case side1 => repeat (first | exact (Kd.C_below HR0_1.out (bn HB.out)) | (with_reducible refine Kd.C_alloc ?_ _) | (with_reducible refine Kd.C_drewN ?_ _) | (with_reducible refine Kd.C_drew ?_))); (case side2 => exact HC0_1.out); rintro e w' ⟨rfl, ⟨nd, rfl⟩⟩; (try first | exact ⟨rfl, _, World.drewN_drewN _ _ _⟩ | exact ⟨rfl, _, Eq.trans (World.drewN_drewN _ _ _) (congrArg (World.drewN _) (Nat.add_assoc _ _ _))⟩)))
  repeat (go_quiet (first | (refine boxE 1 #[.slice A0_0 l0_0.length c0_0, .slice A0_1 l0_1.length c0_1] 26 rfl ?_; intro gb567 hg w6 hbox hb; have BK567 := Aside0.mk (hbox); have GW567 := Aside0.mk ((by rw [hg]; exact (below_size bnow) : w.heap.size ≤ gb567)); have GE567 := Aside0.mk ((by rw [hg]; exact (below_size bnow) : w.heap.size ≤ gb567)); replace HB := Aside0.mk (below_step bnow hb); clear hb hbox hg; have hcz7_0 : w6.cell? ⟨gb567, 0, none⟩ = some (.slice A0_0 l0_0.length c0_0) := (blk_cell BK567.out 0).trans rfl; have hcz7_1 : w6.cell? ⟨gb567, 1, none⟩ = some (.slice A0_1 l0_1.length c0_1) := (blk_cell BK567.out 1).trans rfl; have hfz7_0 := blk_frozen BK567.out 0; have hfz7_1 := blk_frozen BK567.out 1) | (go_at_call 24; (with_reducible refine (impl_IsShape.calls k _ _ l0_0 _ _ l0_1 true _ (cb HR0_0.out) HC0_0.out (cb HR0_1.out) HC0_1.out A2.out).mono ?_); rintro e w8 ⟨rfl, hb⟩; replace BK567 := Aside0.mk (blk_below (bk BK567.out) hb); replace HB := Aside0.mk (below_step (bn HB.out) hb); (try clear hb); (try clear hb2); (try clear hk); (try clear hi); have hcz9_0 : w8.cell? ⟨gb567, 0, none⟩ = some (.slice A0_0 l0_0.length c0_0) := (blk_cell BK567.out 0).trans rfl; have hcz9_1 : w8.cell? ⟨gb567, 1, none⟩ = some (.slice A0_1 l0_1.length c0_1) := (blk_cell BK567.out 1).trans rfl; have hfz9_0 := blk_frozen BK567.out 0; have hfz9_1 := blk_frozen BK567.out 1) | (go_at_call 50; (with_reducible refine (impl_sum.calls k _ _ l0_0 t569 _ (cb HR0_0.out) HC0_0.out A4.out).mono ?_); rintro e w' ⟨rfl, ⟨nd, rfl⟩⟩; (try first | exact ⟨rfl, _, World.drewN_drewN _ _ _⟩ | exact ⟨rfl, _, Eq.trans (World.drewN_drewN _ _ _) (congrArg (World.drewN _) (Nat.add_assoc _ _ _))⟩)) | (go_at_call 50; (with_reducible refine (impl_sum.calls k _ _ l0_1 t570 _ ?side1 ?side2 A5.out).mono ?_); (case side1 => repeat (first | exact (Kd.C_below HR0_1.out (bn HB.out)) | (with_reducible refine Kd.C_alloc ?_ _) | (with_reducible refine Kd.C_drewN ?_ _) | (with_reducible refine Kd.C_drew ?_))); (case side2 => exact HC0_1.out); rintro e w' ⟨rfl, ⟨nd, rfl⟩⟩; (try first | exact ⟨rfl, _, World.drewN_drewN _ _ _⟩ | exact ⟨rfl, _, Eq.trans (World.drewN_drewN _ _ _) (congrArg (World.drewN _) (Nat.add_assoc _ _ _))⟩))); try go_wp2_with (first | (refine boxE 1 #[.slice A0_0 l0_0.length c0_0, .slice A0_1 l0_1.length c0_1] 26 rfl ?_; intro gb567 hg w6 hbox hb; have BK567 := Aside0.mk (hbox); have GW567 := Aside0.mk ((by rw [hg]; exact (below_size bnow) : w.heap.size ≤ gb567)); have GE567 := Aside0.mk ((by rw [hg]; exact (below_size bnow) : w.heap.size ≤ gb567)); replace HB := Aside0.mk (below_step bnow hb); clear hb hbox hg; have hcz7_0 : w6.cell? ⟨gb567, 0, none⟩ = some (.slice A0_0 l0_0.length c0_0) := (blk_cell BK567.out 0).trans rfl; have hcz7_1 : w6.cell? ⟨gb567, 1, none⟩ = some (.slice A0_1 l0_1.length c0_1) := (blk_cell BK567.out 1).trans rfl; have hfz7_0 := blk_frozen BK567.out 0; have hfz7_1 := blk_frozen BK567.out 1) | (go_at_call 24; (with_reducible refine (impl_IsShape.calls k _ _ l0_0 _ _ l0_1 true _ (cb HR0_0.out) HC0_0.out (cb HR0_1.out) HC0_1.out A2.out).mono ?_); rintro e w8 ⟨rfl, hb⟩; replace BK567 := Aside0.mk (blk_below (bk BK567.out) hb); replace HB := Aside0.mk (below_step (bn HB.out) hb); (try clear hb); (try clear hb2); (try clear hk); (try clear hi); have hcz9_0 : w8.cell? ⟨gb567, 0, none⟩ = some (.slice A0_0 l0_0.length c0_0) := (blk_cell BK567.out 0).trans rfl; have hcz9_1 : w8.cell? ⟨gb567, 1, none⟩ = some (.slice A0_1 l0_1.length c0_1) := (blk_cell BK567.out 1).trans rfl; have hfz9_0 := blk_frozen BK567.out 0; have hfz9_1 := blk_frozen BK567.out 1) | (go_at_call 50; (with_reducible refine (impl_sum.calls k _ _ l0_0 t569 _ (cb HR0_0.out) HC0_0.out A4.out).mono ?_); rintro e w' ⟨rfl, ⟨nd, rfl⟩⟩; (try first | exact ⟨rfl, _, World.drewN_drewN _ _ _⟩ | exact ⟨rfl, _, Eq.trans (World.drewN_drewN _ _ _) (congrArg (World.drewN _) (Nat.add_assoc _ _ _))⟩)) | (go_at_call 50; (with_reducible refine (impl_sum.calls k _ _ l0_1 t570 _ ?side1 ?side2 A5.out).mono ?_); (case side1 => repeat (first | exact (Kd.C_below HR0_1.out (bn HB.out)) | (with_reducible refine Kd.C_alloc ?_ _) | (with_reducible refine Kd.C_drewN ?_ _) | (with_reducible refine Kd.C_drew ?_))); (case side2 => exact HC0_1.out); rintro e w' ⟨rfl, ⟨nd, rfl⟩⟩; (try first | exact ⟨rfl, _, World.drewN_drewN _ _ _⟩ | exact ⟨rfl, _, Eq.trans (World.drewN_drewN _ _ _) (congrArg (World.drewN _) (Nat.add_assoc _ _ _))⟩))))
  go_ret
  exact ⟨by first | rfl | (simp [errW_none, errW_some] <;> rfl) | (simp [*, errW_none, errW_some] <;> rfl), bn HB.out⟩
 ·replace c3 := Bool.eq_false_iff.mpr c3
  subst c3
  have H1 : (some (-1)) = some r := by rw [if_neg (show ¬ (false = true) by decide)] at H; exact H
  clear H
  have H := H1
  clear H1
  obtain rfl := Option.some.inj H
  go_enter Tryz.func26, Tryz.ntmps26
  go_wp2_with (first | (refine boxE 1 #[.slice A0_0 l0_0.length c0_0, .slice A0_1 l0_1.length c0_1] 26 rfl ?_; intro gb567 hg w10 hbox hb; have BK567 := Aside0.mk (hbox); have GW567 := Aside0.mk ((by rw [hg]; exact (below_size bnow) : w.heap.size ≤ gb567)); have GE567 := Aside0.mk ((by rw [hg]; exact (below_size bnow) : w.heap.size ≤ gb567)); replace HB := Aside0.mk (below_step bnow hb); clear hb hbox hg; have hcz11_0 : w10.cell? ⟨gb567, 0, none⟩ = some (.slice A0_0 l0_0.length c0_0) := (blk_cell BK567.out 0).trans rfl; have hcz11_1 : w10.cell? ⟨gb567, 1, none⟩ = some (.slice A0_1 l0_1.length c0_1) := (blk_cell BK567.out 1).trans rfl; have hfz11_0 := blk_frozen BK567.out 0; have hfz11_1 := blk_frozen BK567.out 1) | (go_at_call 24; (with_reducible refine (impl_IsShape.calls k _ _ l0_0 _ _ l0_1 false _ (cb HR0_0.out) HC0_0.out (cb HR0_1.out) HC0_1.out A2.out).mono ?_); rintro e w12 ⟨rfl, hb⟩; replace BK567 := Aside0.mk (blk_below (bk BK567.out) hb); replace HB := Aside0.mk (below_step (bn HB.out) hb); (try clear hb); (try clear hb2); (try clear hk); (try clear hi)))
  repeat (go_quiet (first | (refine boxE 1 #[.slice A0_0 l0_0.length c0_0, .slice A0_1 l0_1.length c0_1] 26 rfl ?_; intro gb567 hg w10 hbox hb; have BK567 := Aside0.mk (hbox); have GW567 := Aside0.mk ((by rw [hg]; exact (below_size bnow) : w.heap.size ≤ gb567)); have GE567 := Aside0.mk ((by rw [hg]; exact (below_size bnow) : w.heap.size ≤ gb567)); replace HB := Aside0.mk (below_step bnow hb); clear hb hbox hg; have hcz11_0 : w10.cell? ⟨gb567, 0, none⟩ = some (.slice A0_0 l0_0.length c0_0) := (blk_cell BK567.out 0).trans rfl; have hcz11_1 : w10.cell? ⟨gb567, 1, none⟩ = some (.slice A0_1 l0_1.length c0_1) := (blk_cell BK567.out 1).trans rfl; have hfz11_0 := blk_frozen BK567.out 0; have hfz11_1 := blk_frozen BK567.out 1) | (go_at_call 24; (with_reducible refine (impl_IsShape.calls k _ _ l0_0 _ _ l0_1 false _ (cb HR0_0.out) HC0_0.out (cb HR0_1.out) HC0_1.out A2.out).mono ?_); rintro e w12 ⟨rfl, hb⟩; replace BK567 := Aside0.mk (blk_below (bk BK567.out) hb); replace HB := Aside0.mk (below_step (bn HB.out) hb); (try clear hb); (try clear hb2); (try clear hk); (try clear hi))); try go_wp2_with (first | (refine boxE 1 #[.slice A0_0 l0_0.length c0_0, .slice A0_1 l0_1.length c0_1] 26 rfl ?_; intro gb567 hg w10 hbox hb; have BK567 := Aside0.mk (hbox); have GW567 := Aside0.mk ((by rw [hg]; exact (below_size bnow) : w.heap.size ≤ gb567)); have GE567 := Aside0.mk ((by rw [hg]; exact (below_size bnow) : w.heap.size ≤ gb567)); replace HB := Aside0.mk (below_step bnow hb); clear hb hbox hg; have hcz11_0 : w10.cell? ⟨gb567, 0, none⟩ = some (.slice A0_0 l0_0.length c0_0) := (blk_cell BK567.out 0).trans rfl; have hcz11_1 : w10.cell? ⟨gb567, 1, none⟩ = some (.slice A0_1 l0_1.length c0_1) := (blk_cell BK567.out 1).trans rfl; have hfz11_0 := blk_frozen BK567.out 0; have hfz11_1 := blk_frozen BK567.out 1) | (go_at_call 24; (with_reducible refine (impl_IsShape.calls k _ _ l0_0 _ _ l0_1 false _ (cb HR0_0.out) HC0_0.out (cb HR0_1.out) HC0_1.out A2.out).mono ?_); rintro e w12 ⟨rfl, hb⟩; replace BK567 := Aside0.mk (blk_below (bk BK567.out) hb); replace HB := Aside0.mk (below_step (bn HB.out) hb); (try clear hb); (try clear hb2); (try clear hk); (try clear hi))))
  go_ret
  exact ⟨by first | rfl | (simp [errW_none, errW_some] <;> rfl) | (simp [*, errW_none, errW_some] <;> rfl), bn HB.out⟩

/-! ### impl_filledRows: function 45 -/
def impl_filledRows.l0 : Nat → List Int → List Int → Int → Int → List Int → List Int → Option (List Int)
 | 0, _, _, _, _, _, _ => none
 | k + 1, x3, x8, x9, x10, x572000, x572001 => if x10 < x9 then (if 0 ≤ x10 then (if x10 < (x8.length : Int) then ((impl_at.f x572001 x10).bind fun t576 => (if (rd x8 x10) > t576 then (if x3.length < 17592186044416 then (impl_filledRows.l0 k (x3 ++ [x10]) x8 x9 (wrap64 (x10 + 1)) x572000 x572001) else (none)) else (impl_filledRows.l0 k x3 x8 x9 (wrap64 (x10 + 1)) x572000 x572001))) else (none)) else (none)) else (some x3)
def impl_filledRows.f (k : Nat) (l0_0 : List Int) (l0_1 : List Int) : Option (List Int) := impl_filledRows.l0 k (([] : List Int)) l0_0 (l0_0.length : Int) 0 l0_0 l0_1
theorem impl_filledRows.mono_l : ∀ k, (∀ y0 y1 y2 y3 y4 y5, LeO (impl_filledRows.l0 k y0 y1 y2 y3 y4 y5) (impl_filledRows.l0 (k + 1) y0 y1 y2 y3 y4 y5))
 | 0 => fun _ _ _ _ _ _ r h => by simp [impl_filledRows.l0] at h
 | k + 1 => by
  have ih0 := impl_filledRows.mono_l k
  ·intro y0 y1 y2 y3 y4 y5
   unfold impl_filledRows.l0
   repeat' first
   | (with_reducible exact ih0 _ _ _ _ _ _)
   | (with_reducible exact LeO.refl _)
   | (with_reducible exact LeO.none _)
   | (with_reducible refine LeO.ite ?_ ?_)
   | (with_reducible refine LeO.bind ?_ (fun _ => ?_))
   | exact ih0 _ _ _ _ _ _
   | exact LeO.none _
   | refine LeO.ite ?_ ?_
   | refine LeO.bind ?_ (fun _ => ?_)
theorem impl_filledRows.mono : ∀ a0 a1 k, LeO (impl_filledRows.f k a0 a1) (impl_filledRows.f (k + 1) a0 a1) := by
 intro a0 a1 k
 have ih0 := impl_filledRows.mono_l k
 unfold impl_filledRows.f
 repeat' first
   | (with_reducible exact ih0 _ _ _ _ _ _)
   | (with_reducible exact LeO.refl _)
   | (with_reducible exact LeO.none _)
   | (with_reducible refine LeO.ite ?_ ?_)
   | (with_reducible refine LeO.bind ?_ (fun _ => ?_))
   | exact ih0 _ _ _ _ _ _
   | exact LeO.none _
   | refine LeO.ite ?_ ?_
   | refine LeO.bind ?_ (fun _ => ?_)
set_option maxHeartbeats 8000000 in
set_option maxRecDepth 100000 in
theorem impl_filledRows.calls (k : Nat) (A0_0 : Option Addr) (c0_0 : Nat) (l0_0 : List Int) (A0_1 : Option Addr) (c0_1 : Nat) (l0_1 : List Int) (r : List Int) (w : World) (hr0_0 : Kd.C (Kd.int .i64) w A0_0 l0_0.length l0_0) (hc0_0 : l0_0.length ≤ c0_0) (hr0_1 : Kd.C (Kd.int .i64) w A0_1 l0_1.length l0_1) (hc0_1 : l0_1.length ≤ c0_1) (h : impl_filledRows.f k l0_0 l0_1 = some r) :
  Calls Tryz.prog 45 #[.agg #[.slice A0_0 l0_0.length c0_0, .slice A0_1 l0_1.length c0_1]] w fun e w' => ∃ v0_ : Value, e = .returned (v0_) ∧ Kd.R (Kd.int .i64) 3 w' w.heap.size (fun _ => True) v0_ r ∧ Below w.heap.size w w' := by
 have hu26 := Tryz.underlying26
 have HR0_0 := Aside0.mk hr0_0
 have HC0_0 := Aside0.mk hc0_0
 clear hr0_0 hc0_0
 have HR0_1 := Aside0.mk hr0_1
 have HC0_1 := Aside0.mk hc0_1
 clear hr0_1 hc0_1
 have HB := Aside0.mk (Below.refl w.heap.size w)
 have H : (impl_filledRows.l0 k (([] : List Int)) l0_0 (l0_0.length : Int) 0 l0_0 l0_1) = some r := h
 clear h
 obtain ⟨y572, hy572⟩ : ∃ y_ : List Int, y_ = (([] : List Int)) := ⟨_, rfl⟩
 replace H : (impl_filledRows.l0 k y572 l0_0 (l0_0.length : Int) 0 l0_0 l0_1) = some r := by first | (rw [hy572]; with_reducible exact H) | (have H2_ := (Option.bind_some _ _).symm.trans H; rw [hy572]; with_reducible exact H2_) | (have H2_ := (Option.bind_some _ _).symm.trans H; with_reducible exact H2_) | with_reducible exact H | (rw [hy572]; exact H) | exact H
 have Ny572 := Aside0.mk hy572
 clear hy572
 have H' := Aside0.mk H
 clear H
 go_enter Tryz.func45, Tryz.ntmps45
 go_wp2_with (first | (refine boxE 1 #[.slice A0_0 l0_0.length c0_0, .slice A0_1 l0_1.length c0_1] 26 rfl ?_; intro gb571 hg w2 hbox hb; have BK571 := Aside0.mk (hbox); have GW571 := Aside0.mk ((by rw [hg]; exact (below_size bnow) : w.heap.size ≤ gb571)); have GE571 := Aside0.mk ((by rw [hg]; exact (below_size bnow) : w.heap.size ≤ gb571)); replace HB := Aside0.mk (below_step bnow hb); clear hb hbox hg) | ((with_reducible refine gate_dst (N := 6) rfl ?_); refine Kd.R_lit (Kd.int .i64) _ 3 ?hg (N := 6) ?hd (xs := ([] : List Int)) (inner := []) (ok := fun _ => True) (okp := fun _ => True) ?hr ?hp (fun _ hk => hk) trivial (Below.refl _ _) (Nat.le_refl _) (by simp) ?_; (case hd => rfl); (case hg => rfl); (case hr => first | (go_simp; done) | (go_simp; rfl)); (case hp => exact (Reps.none _ _)); intro v573 w3 ho4 hb hg_ hnew_; clear hg_ hnew_; (first | rw [← Ny572.out] at ho4 | (simp only [Int.reduceToNat] at ho4; rw [← Ny572.out] at ho4)); have HO574 := Aside0.mk (Kd.R_lower ho4 (below_size (bn HB.out))); replace BK571 := Aside0.mk (blk_below (bk BK571.out) hb); replace HB := Aside0.mk (below_step (bn HB.out) hb); clear hb ho4; have hcz5_0 : w3.cell? ⟨gb571, 0, none⟩ = some (.slice A0_0 l0_0.length c0_0) := (blk_cell BK571.out 0).trans rfl; have hcz5_1 : w3.cell? ⟨gb571, 1, none⟩ = some (.slice A0_1 l0_1.length c0_1) := (blk_cell BK571.out 1).trans rfl; have hfz5_0 := blk_frozen BK571.out 0; have hfz5_1 := blk_frozen BK571.out 1))
 go_loopg [3, 10] k (fun kq v3 v10 w' => ∃ (x3_1 : List Int) (x10_1 : Int), v10 = .int .i64 x10_1 ∧ Aside0 (impl_filledRows.l0 kq x3_1 l0_0 (l0_0.length : Int) x10_1 l0_0 l0_1 = some r) ∧ Aside0 (kq ≤ k) ∧ Aside0 (Kd.R (Kd.int .i64) 3 w' w.heap.size (fun _ => True) v3 x3_1) ∧ Aside0 (w'.heap[gb571]? = some (.cells #[(.slice A0_0 l0_0.length c0_0), (.slice A0_1 l0_1.length c0_1)] 26 (0, 0))) ∧ Aside0 (Below w.heap.size w w'))
 case atStart => exact ⟨(y572), (0), (by first | rfl | (simp; done) | (simp [*]; done)), H', ⟨Nat.le_refl _⟩, ⟨rk HO574.out⟩, ⟨bk BK571.out⟩, ⟨bn HB.out⟩⟩
 case round =>
  clear H'
  try clear p2
  try clear c4
  try clear hcz5_0
  try clear hcz5_1
  try clear hfz5_0
  try clear hfz5_1
  obtain ⟨x3_1, x10_1, rfl, HA, HK1, HO_3, BK571, HB⟩ := hrel
  cases gk with
  | zero => exact absurd HA.out (by simp [impl_filledRows.l0])
  | succ k1 =>
   have H := HA.out
   clear HA
   simp only [impl_filledRows.l0] at H
   by_cases c6 : x10_1 < (l0_0.length : Int)
   ·rw [if_pos c6] at H
    have c6b0 : decide (x10_1 < (l0_0.length : Int)) = true := decide_eq_true c6
    clear c6
    by_cases c7 : 0 ≤ x10_1
    ·rw [if_pos c7] at H
     have c7b0 : decide (0 ≤ x10_1) = true := decide_eq_true c7
     clear c7
     by_cases c8 : x10_1 < (l0_0.length : Int)
     ·rw [if_pos c8] at H
      have c8b0 : decide (x10_1 < (l0_0.length : Int)) = true := decide_eq_true c8
      clear c8
      replace H := Option.bind_eq_some_iff.mp H
      obtain ⟨t576, A90, H⟩ := H
      replace H : (if (rd l0_0 x10_1) > t576 then (if x3_1.length < 17592186044416 then (impl_filledRows.l0 k1 (x3_1 ++ [x10_1]) l0_0 (l0_0.length : Int) (wrap64 (x10_1 + 1)) l0_0 l0_1) else (none)) else (impl_filledRows.l0 k1 x3_1 l0_0 (l0_0.length : Int) (wrap64 (x10_1 + 1)) l0_0 l0_1)) = some r := H
      have A9 := Aside0.mk A90
      clear A90
      by_cases c10 : (rd l0_0 x10_1) > t576
      ·rw [if_pos c10] at H
       have c10b0 : decide (t576 < (rd l0_0 x10_1)) = true := decide_eq_true c10
       clear c10
       by_cases c11 : x3_1.length < 17592186044416
       ·rw [if_pos c11] at H
        have LMc11 := Aside0.mk c11
        clear c11
        obtain ⟨y577, hy577⟩ : ∃ y_ : List Int, y_ = (x3_1 ++ [x10_1]) := ⟨_, rfl⟩
        replace H : (impl_filledRows.l0 k1 y577 l0_0 (l0_0.length : Int) (wrap64 (x10_1 + 1)) l0_0 l0_1) = some r := by first | (rw [hy577]; with_reducible exact H) | (have H2_ := (Option.bind_some _ _).symm.trans H; rw [hy577]; with_reducible exact H2_) | (have H2_ := (Option.bind_some _ _).symm.trans H; with_reducible exact H2_) | with_reducible exact H | (rw [hy577]; exact H) | exact H
        have Ny577 := Aside0.mk hy577
        clear hy577
        have H' := Aside0.mk H
        clear H
        have p575 : 0 ≤ (x10_1 : Int) := of_decide_eq_true asm
        have q575 : x10_1 < (l0_0.length : Int) := of_decide_eq_true asm
        obtain ⟨ad575, e575, hx575_0⟩ := Kd.at_int HR0_0.out x10_1 p575 q575
        cases e575
        (first | replace hx575_0 := (HB.out.cell (World.block_lt_of_cell? w _ hx575_0)).trans hx575_0 | skip)
        replace p575 := eq_true p575
        replace q575 := eq_true q575
        have hcz12_0 : wr.cell? ⟨gb571, 0, none⟩ = some (.slice (some ad575) l0_0.length c0_0) := (blk_cell BK571.out 0).trans rfl
        have hcz12_1 : wr.cell? ⟨gb571, 1, none⟩ = some (.slice A0_1 l0_1.length c0_1) := (blk_cell BK571.out 1).trans rfl
        have hfz12_0 := blk_frozen BK571.out 0
        have hfz12_1 := blk_frozen BK571.out 1
        go_wp2_with (first | ((with_reducible refine gate_callee (f := 43) rfl ?_); refine goesL_ (some 19) rfl rfl Tryz.func43 (by kernel_rfl) rfl #[.slice A0_1 l0_1.length c0_1, .int .i64 x10_1] rfl lm ?_; (with_reducible refine (impl_at.calls _ _ l0_1 x10_1 t576 _ (cb HR0_1.out) HC0_1.out A9.out).mono ?_); rintro e w' ⟨rfl, ⟨nd, rfl⟩⟩; refine ⟨_, rfl, ?_⟩) | ((with_reducible refine gate_builtin (b := .append) (xs := #[.tmp 21, .tmp 23]) rfl ?_); at_builtin; refine Kd.R_append (Kd.int .i64) (w0 := w) w.heap.size rfl (.tmp 21) (.tmp 23) 24 3 (.int .i64 0) 8 rfl Tryz.underlying24 info3 rfl (by decide) (by omega) u3 x3_1 x10_1 [.int .i64 x10_1] (fun _ => True) (fun _ => False) rfl rfl ?aP (fun _ hk => hk.elim) ?aF ?aO ?aB ?aS ?aL ?_; (case aP => exact rfl); (case aB => exact (bn HB.out)); (case aF => exact (fun _ _ => trivial)); (case aO => exact (rk HO_3.out)); (case aS => exact (below_size (bn HB.out))); (case aL => have := LMc11.out; omega); intro v578 w13 ho hb hg hat; rw [← Ny577.out] at ho; replace BK571 := Aside0.mk (blk_grown (g := gb571) (o := .cells #[.slice (some ad575) l0_0.length c0_0, .slice A0_1 l0_1.length c0_1] 26 (0, 0)) (bk BK571.out) hg (Kd.R_ne HO_3.out BK571.out (by decide))); replace HB := Aside0.mk (hb); have HO579 := Aside0.mk (ho); clear HO_3; clear ho hb hg hat))
        go_roundg k1
        case measure => have := HK1.out; omega
        case rel => exact ⟨(y577), (wrap64 (x10_1 + 1)), (by first | rfl | (simp; done) | (simp [*]; done)), H', ⟨by have := HK1.out; omega⟩, ⟨rk HO579.out⟩, ⟨bk BK571.out⟩, ⟨bn HB.out⟩⟩
       ·rw [if_neg c11] at H
        exact absurd H (by simp)
      ·rw [if_neg c10] at H
       have c10b0 : decide (t576 < (rd l0_0 x10_1)) = false := decide_eq_false c10
       clear c10
       have H' := Aside0.mk H
       clear H
       have p575 : 0 ≤ (x10_1 : Int) := of_decide_eq_true asm
       have q575 : x10_1 < (l0_0.length : Int) := of_decide_eq_true asm
       obtain ⟨ad575, e575, hx575_0⟩ := Kd.at_int HR0_0.out x10_1 p575 q575
       cases e575
       (first | replace hx575_0 := (HB.out.cell (World.block_lt_of_cell? w _ hx575_0)).trans hx575_0 | skip)
       replace p575 := eq_true p575
       replace q575 := eq_true q575
       have hcz14_0 : wr.cell? ⟨gb571, 0, none⟩ = some (.slice (some ad575) l0_0.length c0_0) := (blk_cell BK571.out 0).trans rfl
       have hcz14_1 : wr.cell? ⟨gb571, 1, none⟩ = some (.slice A0_1 l0_1.length c0_1) := (blk_cell BK571.out 1).trans rfl
       have hfz14_0 := blk_frozen BK571.out 0
       have hfz14_1 := blk_frozen BK571.out 1
       go_wp2_with (first | ((with_reducible refine gate_callee (f := 43) rfl ?_); refine goesL_ (some 19) rfl rfl Tryz.func43 (by kernel_rfl) rfl #[.slice A0_1 l0_1.length c0_1, .int .i64 x10_1] rfl lm ?_; (with_reducible refine (impl_at.calls _ _ l0_1 x10_1 t576 _ (cb HR0_1.out) HC0_1.out A9.out).mono ?_); rintro e w' ⟨rfl, ⟨nd, rfl⟩⟩; refine ⟨_, rfl, ?_⟩))
       go_roundg k1
       case measure => have := HK1.out; omega
       case rel => exact ⟨(x3_1), (wrap64 (x10_1 + 1)), (by first | rfl | (simp; done) | (simp [*]; done)), H', ⟨by have := HK1.out; omega⟩, ⟨rk HO_3.out⟩, ⟨bk BK571.out⟩, ⟨bn HB.out⟩⟩
     ·rw [if_neg c8] at H
      exact absurd H (by simp)
    ·rw [if_neg c7] at H
     exact absurd H (by simp)
   ·rw [if_neg c6] at H
    have c6b0 : decide (x10_1 < (l0_0.length : Int)) = false := decide_eq_false c6
    clear c6
    obtain rfl := Option.some.inj H
    go_wp2
    go_ret
    exact ⟨_, by first | rfl | (simp [errW_none, errW_some] <;> rfl) | (simp [*, errW_none, errW_some] <;> rfl), by (with_reducible repeat (first | apply Kd.R_alloc | apply Kd.R_drewN | apply Kd.R_drew)); exact HO_3.out, bn HB.out⟩

/-! ### impl_IsRibbon: function 19 -/
def impl_IsRibbon.l0 : Nat → List Int → Int → List Int → List Int → Option (Bool)
 | 0, _, _, _, _ => none
 | k + 1, x3, x4, x581000, x581001 => if x4 < (x3.length : Int) then (if 0 ≤ x4 then (if 0 ≤ (wrap64 (x4 - 1)) then (if (wrap64 (x4 - 1)) < (x3.length : Int) then (if (rd x3 (wrap64 (x4 - 1))) = (wrap64 ((rd x3 x4) - 1)) then (if 0 ≤ (rd x3 x4) then (if (rd x3 x4) < (x581000.length : Int) then ((impl_at.f x581001 (wrap64 ((rd x3 x4) - 1))).bind fun t588 => (if (rd x581000 (rd x3 x4)) = (wrap64 (t588 + 1)) then (impl_IsRibbon.l0 k x3 (wrap64 (x4 + 1)) x581000 x581001) else (some false))) else (none)) else (none)) else (some false)) else (none)) else (none)) else (none)) else (some true)
def impl_IsRibbon.f (k : Nat) (l0_0 : List Int) (l0_1 : List Int) : Option (Bool) := (impl_CellCount.f k l0_0 l0_1).bind fun t581 => (if t581 < 1 then (some false) else ((impl_filledRows.f k l0_0 l0_1).bind fun t582 => (impl_IsRibbon.l0 k t582 1 l0_0 l0_1)))
theorem impl_IsRibbon.mono_l : ∀ k, (∀ y0 y1 y2 y3, LeO (impl_IsRibbon.l0 k y0 y1 y2 y3) (impl_IsRibbon.l0 (k + 1) y0 y1 y2 y3))
 | 0 => fun _ _ _ _ r h => by simp [impl_IsRibbon.l0] at h
 | k + 1 => by
  have ih0 := impl_IsRibbon.mono_l k
  ·intro y0 y1 y2 y3
   unfold impl_IsRibbon.l0
   repeat' first
   | (with_reducible exact ih0 _ _ _ _)
   | (with_reducible exact impl_CellCount.mono _ _ _)
   | (with_reducible exact impl_filledRows.mono _ _ _)
   | (with_reducible exact LeO.refl _)
   | (with_reducible exact LeO.none _)
   | (with_reducible refine LeO.ite ?_ ?_)
   | (with_reducible refine LeO.bind ?_ (fun _ => ?_))
   | exact ih0 _ _ _ _
   | exact impl_CellCount.mono _ _ _
   | exact impl_filledRows.mono _ _ _
   | exact LeO.none _
   | refine LeO.ite ?_ ?_
   | refine LeO.bind ?_ (fun _ => ?_)
theorem impl_IsRibbon.mono : ∀ a0 a1 k, LeO (impl_IsRibbon.f k a0 a1) (impl_IsRibbon.f (k + 1) a0 a1) := by
 intro a0 a1 k
 have ih0 := impl_IsRibbon.mono_l k
 unfold impl_IsRibbon.f
 repeat' first
   | (with_reducible exact ih0 _ _ _ _)
   | (with_reducible exact impl_CellCount.mono _ _ _)
   | (with_reducible exact impl_filledRows.mono _ _ _)
   | (with_reducible exact LeO.refl _)
   | (with_reducible exact LeO.none _)
   | (with_reducible refine LeO.ite ?_ ?_)
   | (with_reducible refine LeO.bind ?_ (fun _ => ?_))
   | exact ih0 _ _ _ _
   | exact impl_CellCount.mono _ _ _
   | exact impl_filledRows.mono _ _ _
   | exact LeO.none _
   | refine LeO.ite ?_ ?_
   | refine LeO.bind ?_ (fun _ => ?_)
set_option maxHeartbeats 8000000 in
set_option maxRecDepth 100000 in
theorem impl_IsRibbon.calls (k : Nat) (A0_0 : Option Addr) (c0_0 : Nat) (l0_0 : List Int) (A0_1 : Option Addr) (c0_1 : Nat) (l0_1 : List Int) (r : Bool) (w : World) (hr0_0 : Kd.C (Kd.int .i64) w A0_0 l0_0.length l0_0) (hc0_0 : l0_0.length ≤ c0_0) (hr0_1 : Kd.C (Kd.int .i64) w A0_1 l0_1.length l0_1) (hc0_1 : l0_1.length ≤ c0_1) (h : impl_IsRibbon.f k l0_0 l0_1 = some r) :
  Calls Tryz.prog 19 #[.agg #[.slice A0_0 l0_0.length c0_0, .slice A0_1 l0_1.length c0_1]] w fun e w' => e = .returned (.bool r) ∧ Below w.heap.size w w' := by
 have hu26 := Tryz.underlying26
 have HR0_0 := Aside0.mk hr0_0
 have HC0_0 := Aside0.mk hc0_0
 clear hr0_0 hc0_0
 have HR0_1 := Aside0.mk hr0_1
 have HC0_1 := Aside0.mk hc0_1
 clear hr0_1 hc0_1
 have HB := Aside0.mk (Below.refl w.heap.size w)
 have H : ((impl_CellCount.f k l0_0 l0_1).bind fun t581 => (if t581 < 1 then (some false) else ((impl_filledRows.f k l0_0 l0_1).bind fun t582 => (impl_IsRibbon.l0 k t582 1 l0_0 l0_1)))) = some r := h
 clear h
 replace H := Option.bind_eq_some_iff.mp H
 obtain ⟨t581, A20, H⟩ := H
 replace H : (if t581 < 1 then (some false) else ((impl_filledRows.f k l0_0 l0_1).bind fun t582 => (impl_IsRibbon.l0 k t582 1 l0_0 l0_1))) = some r := H
 have A2 := Aside0.mk A20
 clear A20
 by_cases c3 : t581 < 1
 ·rw [if_pos c3] at H
  have c3b0 : decide (t581 < 1) = true := decide_eq_true c3
  clear c3
  obtain rfl := Option.some.inj H
  go_enter Tryz.func19, Tryz.ntmps19
  go_wp2_with (first | (refine boxE 1 #[.slice A0_0 l0_0.length c0_0, .slice A0_1 l0_1.length c0_1] 26 rfl ?_; intro gb580 hg w4 hbox hb; have BK580 := Aside0.mk (hbox); have GW580 := Aside0.mk ((by rw [hg]; exact (below_size bnow) : w.heap.size ≤ gb580)); have GE580 := Aside0.mk ((by rw [hg]; exact (below_size bnow) : w.heap.size ≤ gb580)); replace HB := Aside0.mk (below_step bnow hb); clear hb hbox hg; have hcz5_0 : w4.cell? ⟨gb580, 0, none⟩ = some (.slice A0_0 l0_0.length c0_0) := (blk_cell BK580.out 0).trans rfl; have hcz5_1 : w4.cell? ⟨gb580, 1, none⟩ = some (.slice A0_1 l0_1.length c0_1) := (blk_cell BK580.out 1).trans rfl; have hfz5_0 := blk_frozen BK580.out 0; have hfz5_1 := blk_frozen BK580.out 1) | (go_at_call 26; (with_reducible refine (impl_CellCount.calls k _ _ l0_0 _ _ l0_1 t581 _ (cb HR0_0.out) HC0_0.out (cb HR0_1.out) HC0_1.out A2.out).mono ?_); rintro e w6 ⟨rfl, hb⟩; replace BK580 := Aside0.mk (blk_below (bk BK580.out) hb); replace HB := Aside0.mk (below_step (bn HB.out) hb); (try clear hb); (try clear hb2); (try clear hk); (try clear hi)))
  repeat (go_quiet (first | (refine boxE 1 #[.slice A0_0 l0_0.length c0_0, .slice A0_1 l0_1.length c0_1] 26 rfl ?_; intro gb580 hg w4 hbox hb; have BK580 := Aside0.mk (hbox); have GW580 := Aside0.mk ((by rw [hg]; exact (below_size bnow) : w.heap.size ≤ gb580)); have GE580 := Aside0.mk ((by rw [hg]; exact (below_size bnow) : w.heap.size ≤ gb580)); replace HB := Aside0.mk (below_step bnow hb); clear hb hbox hg; have hcz5_0 : w4.cell? ⟨gb580, 0, none⟩ = some (.slice A0_0 l0_0.length c0_0) := (blk_cell BK580.out 0).trans rfl; have hcz5_1 : w4.cell? ⟨gb580, 1, none⟩ = some (.slice A0_1 l0_1.length c0_1) := (blk_cell BK580.out 1).trans rfl; have hfz5_0 := blk_frozen BK580.out 0; have hfz5_1 := blk_frozen BK580.out 1) | (go_at_call 26; (with_reducible refine (impl_CellCount.calls k _ _ l0_0 _ _ l0_1 t581 _ (cb HR0_0.out) HC0_0.out (cb HR0_1.out) HC0_1.out A2.out).mono ?_); rintro e w6 ⟨rfl, hb⟩; replace BK580 := Aside0.mk (blk_below (bk BK580.out) hb); replace HB := Aside0.mk (below_step (bn HB.out) hb); (try clear hb); (try clear hb2); (try clear hk); (try clear hi))); try go_wp2_with (first | (refine boxE 1 #[.slice A0_0 l0_0.length c0_0, .slice A0_1 l0_1.length c0_1] 26 rfl ?_; intro gb580 hg w4 hbox hb; have BK580 := Aside0.mk (hbox); have GW580 := Aside0.mk ((by rw [hg]; exact (below_size bnow) : w.heap.size ≤ gb580)); have GE580 := Aside0.mk ((by rw [hg]; exact (below_size bnow) : w.heap.size ≤ gb580)); replace HB := Aside0.mk (below_step bnow hb); clear hb hbox hg; have hcz5_0 : w4.cell? ⟨gb580, 0, none⟩ = some (.slice A0_0 l0_0.length c0_0) := (blk_cell BK580.out 0).trans rfl; have hcz5_1 : w4.cell? ⟨gb580, 1, none⟩ = some (.slice A0_1 l0_1.length c0_1) := (blk_cell BK580.out 1).trans rfl; have hfz5_0 := blk_frozen BK580.out 0; have hfz5_1 := blk_frozen BK580.out 1) | (go_at_call 26; (with_reducible refine (impl_CellCount.calls k _ _ l0_0 _ _ l0_1 t581 _ (cb HR0_0.out) HC0_0.out (cb HR0_1.out) HC0_1.out A2.out).mono ?_); rintro e w6 ⟨rfl, hb⟩; replace BK580 := Aside0.mk (blk_below (bk BK580.out) hb); replace HB := Aside0.mk (below_step (bn HB.out) hb); (try clear hb); (try clear hb2); (try clear hk); (try clear hi))))
  go_ret
  exact ⟨by first | rfl | (simp [errW_none, errW_some] <;> rfl) | (simp [*, errW_none, errW_some] <;> rfl), bn HB.out⟩
 ·rw [if_neg c3] at H
  have c3b0 : decide (t581 < 1) = false := decide_eq_false c3
  clear c3
  replace H := Option.bind_eq_some_iff.mp H
  obtain ⟨t582, A70, H⟩ := H
  replace H : (impl_IsRibbon.l0 k t582 1 l0_0 l0_1) = some r := H
  have A7 := Aside0.mk A70
  clear A70
  have H' := Aside0.mk H
  clear H
  go_enter Tryz.func19, Tryz.ntmps19
  go_wp2_with (first | (refine boxE 1 #[.slice A0_0 l0_0.length c0_0, .slice A0_1 l0_1.length c0_1] 26 rfl ?_; intro gb580 hg w8 hbox hb; have BK580 := Aside0.mk (hbox); have GW580 := Aside0.mk ((by rw [hg]; exact (below_size bnow) : w.heap.size ≤ gb580)); have GE580 := Aside0.mk ((by rw [hg]; exact (below_size bnow) : w.heap.size ≤ gb580)); replace HB := Aside0.mk (below_step bnow hb); clear hb hbox hg; have hcz9_0 : w8.cell? ⟨gb580, 0, none⟩ = some (.slice A0_0 l0_0.length c0_0) := (blk_cell BK580.out 0).trans rfl; have hcz9_1 : w8.cell? ⟨gb580, 1, none⟩ = some (.slice A0_1 l0_1.length c0_1) := (blk_cell BK580.out 1).trans rfl; have hfz9_0 := blk_frozen BK580.out 0; have hfz9_1 := blk_frozen BK580.out 1) | (go_at_call 26; (with_reducible refine (impl_CellCount.calls k _ _ l0_0 _ _ l0_1 t581 _ (cb HR0_0.out) HC0_0.out (cb HR0_1.out) HC0_1.out A2.out).mono ?_); rintro e w10 ⟨rfl, hb⟩; replace BK580 := Aside0.mk (blk_below (bk BK580.out) hb); replace HB := Aside0.mk (below_step (bn HB.out) hb); (try clear hb); (try clear hb2); (try clear hk); (try clear hi); have hcz11_0 : w10.cell? ⟨gb580, 0, none⟩ = some (.slice A0_0 l0_0.length c0_0) := (blk_cell BK580.out 0).trans rfl; have hcz11_1 : w10.cell? ⟨gb580, 1, none⟩ = some (.slice A0_1 l0_1.length c0_1) := (blk_cell BK580.out 1).trans rfl; have hfz11_0 := blk_frozen BK580.out 0; have hfz11_1 := blk_frozen BK580.out 1) | (go_at_call 45; (with_reducible refine (impl_filledRows.calls k _ _ l0_0 _ _ l0_1 t582 _ (cb HR0_0.out) HC0_0.out (cb HR0_1.out) HC0_1.out A7.out).mono ?_); rintro e w12 ⟨v583, rfl, ho0, hb⟩; have HO584 := Aside0.mk (Kd.R_lower ho0 (below_size (bn HB.out))); replace BK580 := Aside0.mk (blk_below (bk BK580.out) hb); replace HB := Aside0.mk (below_step (bn HB.out) hb); (try clear hb); (try clear hb2); (try clear hk); (try clear hi); (try clear ho0)))
  repeat (go_quiet (first | (refine boxE 1 #[.slice A0_0 l0_0.length c0_0, .slice A0_1 l0_1.length c0_1] 26 rfl ?_; intro gb580 hg w8 hbox hb; have BK580 := Aside0.mk (hbox); have GW580 := Aside0.mk ((by rw [hg]; exact (below_size bnow) : w.heap.size ≤ gb580)); have GE580 := Aside0.mk ((by rw [hg]; exact (below_size bnow) : w.heap.size ≤ gb580)); replace HB := Aside0.mk (below_step bnow hb); clear hb hbox hg; have hcz9_0 : w8.cell? ⟨gb580, 0, none⟩ = some (.slice A0_0 l0_0.length c0_0) := (blk_cell BK580.out 0).trans rfl; have hcz9_1 : w8.cell? ⟨gb580, 1, none⟩ = some (.slice A0_1 l0_1.length c0_1) := (blk_cell BK580.out 1).trans rfl; have hfz9_0 := blk_frozen BK580.out 0; have hfz9_1 := blk_frozen BK580.out 1) | (go_at_call 26; (with_reducible refine (impl_CellCount.calls k _ _ l0_0 _ _ l0_1 t581 _ (cb HR0_0.out) HC0_0.out (cb HR0_1.out) HC0_1.out A2.out).mono ?_); rintro e w10 ⟨rfl, hb⟩; replace BK580 := Aside0.mk (blk_below (bk BK580.out) hb); replace HB := Aside0.mk (below_step (bn HB.out) hb); (try clear hb); (try clear hb2); (try clear hk); (try clear hi); have hcz11_0 : w10.cell? ⟨gb580, 0, none⟩ = some (.slice A0_0 l0_0.length c0_0) := (blk_cell BK580.out 0).trans rfl; have hcz11_1 : w10.cell? ⟨gb580, 1, none⟩ = some (.slice A0_1 l0_1.length c0_1) := (blk_cell BK580.out 1).trans rfl; have hfz11_0 := blk_frozen BK580.out 0; have hfz11_1 := blk_frozen BK580.out 1) | (go_at_call 45; (with_reducible refine (impl_filledRows.calls k _ _ l0_0 _ _ l0_1 t582 _ (cb HR0_0.out) HC0_0.out (cb HR0_1.out) HC0_1.out A7.out).mono ?_); rintro e w12 ⟨v583, rfl, ho0, hb⟩; have HO584 := Aside0.mk (Kd.R_lower ho0 (below_size (bn HB.out))); replace BK580 := Aside0.mk (blk_below (bk BK580.out) hb); replace HB := Aside0.mk (below_step (bn HB.out) hb); (try clear hb); (try clear hb2); (try clear hk); (try clear hi); (try clear ho0))); try go_wp2_with (first | (refine boxE 1 #[.slice A0_0 l0_0.length c0_0, .slice A0_1 l0_1.length c0_1] 26 rfl ?_; intro gb580 hg w8 hbox hb; have BK580 := Aside0.mk (hbox); have GW580 := Aside0.mk ((by rw [hg]; exact (below_size bnow) : w.heap.size ≤ gb580)); have GE580 := Aside0.mk ((by rw [hg]; exact (below_size bnow) : w.heap.size ≤ gb580)); replace HB := Aside0.mk (below_step bnow hb); clear hb hbox hg; have hcz9_0 : w8.cell? ⟨gb580, 0, none⟩ = some (.slice A0_0 l0_0.length c0_0) := (blk_cell BK580.out 0).trans rfl; have hcz9_1 : w8.cell? ⟨gb580, 1, none⟩ = some (.slice A0_1 l0_1.length c0_1) := (blk_cell BK580.out 1).trans rfl; have hfz9_0 := blk_frozen BK580.out 0; have hfz9_1 := blk_frozen BK580.out 1) | (go_at_call 26; (with_reducible refine (impl_CellCount.calls k _ _ l0_0 _ _ l0_1 t581 _ (cb HR0_0.out) HC0_0.out (cb HR0_1.out) HC0_1.out A2.out).mono ?_); rintro e w10 ⟨rfl, hb⟩; replace BK580 := Aside0.mk (blk_below (bk BK580.out) hb); replace HB := Aside0.mk (below_step (bn HB.out) hb); (try clear hb); (try clear hb2); (try clear hk); (try clear hi); have hcz11_0 : w10.cell? ⟨gb580, 0, none⟩ = some (.slice A0_0 l0_0.length c0_0) := (blk_cell BK580.out 0).trans rfl; have hcz11_1 : w10.cell? ⟨gb580, 1, none⟩ = some (.slice A0_1 l0_1.length c0_1) := (blk_cell BK580.out 1).trans rfl; have hfz11_0 := blk_frozen BK580.out 0; have hfz11_1 := blk_frozen BK580.out 1) | (go_at_call 45; (with_reducible refine (impl_filledRows.calls k _ _ l0_0 _ _ l0_1 t582 _ (cb HR0_0.out) HC0_0.out (cb HR0_1.out) HC0_1.out A7.out).mono ?_); rintro e w12 ⟨v583, rfl, ho0, hb⟩; have HO584 := Aside0.mk (Kd.R_lower ho0 (below_size (bn HB.out))); replace BK580 := Aside0.mk (blk_below (bk BK580.out) hb); replace HB := Aside0.mk (below_step (bn HB.out) hb); (try clear hb); (try clear hb2); (try clear hk); (try clear hi); (try clear ho0))))
  go_loopg [4] k (fun kq v4 w' => ∃ (x4_1 : Int), v4 = .int .i64 x4_1 ∧ Aside0 (impl_IsRibbon.l0 kq t582 x4_1 l0_0 l0_1 = some r) ∧ Aside0 (kq ≤ k) ∧ Aside0 (Kd.R (Kd.int .i64) 3 w' w.heap.size (fun _ => True) v583 t582) ∧ Aside0 (w'.heap[gb580]? = some (.cells #[(.slice A0_0 l0_0.length c0_0), (.slice A0_1 l0_1.length c0_1)] 26 (0, 0))) ∧ Aside0 (Below w.heap.size w w'))
  case atStart => exact ⟨(1), (by first | rfl | (simp; done) | (simp [*]; done)), H', ⟨Nat.le_refl _⟩, ⟨rk HO584.out⟩, ⟨bk BK580.out⟩, ⟨bn HB.out⟩⟩
  case round =>
   clear H'
   try clear c1
   try clear p2
   try clear c3
   try clear c3b0
   try clear hcz11_0
   try clear hcz11_1
   try clear hcz5_0
   try clear hcz5_1
   try clear hcz9_0
   try clear hcz9_1
   try clear hfz11_0
   try clear hfz11_1
   try clear hfz5_0
   try clear hfz5_1
   try clear hfz9_0
   try clear hfz9_1
   obtain ⟨x4_1, rfl, HA, HK1, HO_3, BK580, HB⟩ := hrel
   cases gk with
   | zero => exact absurd HA.out (by simp [impl_IsRibbon.l0])
   | succ k1 =>
    have H := HA.out
    clear HA
    simp only [impl_IsRibbon.l0] at H
    by_cases c13 : x4_1 < (t582.length : Int)
    ·rw [if_pos c13] at H
     have c13b0 : decide (x4_1 < (t582.length : Int)) = true := decide_eq_true c13
     clear c13
     by_cases c14 : 0 ≤ x4_1
     ·rw [if_pos c14] at H
      have c14b0 : decide (0 ≤ x4_1) = true := decide_eq_true c14
      clear c14
      obtain ⟨ji15, hji15⟩ : ∃ j_ : Int, (wrap64 (x4_1 - 1)) = j_ := ⟨_, rfl⟩
      replace H : (if 0 ≤ (ji15) then (if (ji15) < (t582.length : Int) then (if (rd t582 (ji15)) = (wrap64 ((rd t582 x4_1) - 1)) then (if 0 ≤ (rd t582 x4_1) then (if (rd t582 x4_1) < (l0_0.length : Int) then ((impl_at.f l0_1 (wrap64 ((rd t582 x4_1) - 1))).bind fun t588 => (if (rd l0_0 (rd t582 x4_1)) = (wrap64 (t588 + 1)) then (impl_IsRibbon.l0 k1 t582 (wrap64 (x4_1 + 1)) l0_0 l0_1) else (some false))) else (none)) else (none)) else (some false)) else (none)) else (none)) = some r := by first | (rw [hji15] at H; exact H) | (simp only [hji15] at H ⊢; exact H)
      have hji15w : (IntKind.i64.wrap (x4_1 - 1)) = ji15 := (i64_w _).trans hji15
      by_cases c16 : 0 ≤ (ji15)
      ·rw [if_pos c16] at H
       have c16b0 : decide (0 ≤ (ji15)) = true := decide_eq_true c16
       clear c16
       by_cases c17 : (ji15) < (t582.length : Int)
       ·rw [if_pos c17] at H
        have c17b0 : decide ((ji15) < (t582.length : Int)) = true := decide_eq_true c17
        clear c17
        by_cases c18 : (rd t582 (ji15)) = (wrap64 ((rd t582 x4_1) - 1))
        ·rw [if_pos c18] at H
         have c18b0 : ((rd t582 (ji15)) == (wrap64 ((rd t582 x4_1) - 1))) = true := beq_iff_eq.mpr c18
         have c18b1 : ((rd t582 (ji15)) != (wrap64 ((rd t582 x4_1) - 1))) = false := bne_eq_false_iff_eq.mpr c18
         clear c18
         by_cases c19 : 0 ≤ (rd t582 x4_1)
         ·rw [if_pos c19] at H
          have c19b0 : decide (0 ≤ (rd t582 x4_1)) = true := decide_eq_true c19
          clear c19
          by_cases c20 : (rd t582 x4_1) < (l0_0.length : Int)
          ·rw [if_pos c20] at H
           have c20b0 : decide ((rd t582 x4_1) < (l0_0.length : Int)) = true := decide_eq_true c20
           clear c20
           replace H := Option.bind_eq_some_iff.mp H
           obtain ⟨t588, A210, H⟩ := H
           replace H : (if (rd l0_0 (rd t582 x4_1)) = (wrap64 (t588 + 1)) then (impl_IsRibbon.l0 k1 t582 (wrap64 (x4_1 + 1)) l0_0 l0_1) else (some false)) = some r := H
           have A21 := Aside0.mk A210
           clear A210
           by_cases c22 : (rd l0_0 (rd t582 x4_1)) = (wrap64 (t588 + 1))
           ·rw [if_pos c22] at H
            have c22b0 : ((rd l0_0 (rd t582 x4_1)) == (wrap64 (t588 + 1))) = true := beq_iff_eq.mpr c22
            have c22b1 : ((rd l0_0 (rd t582 x4_1)) != (wrap64 (t588 + 1))) = false := bne_eq_false_iff_eq.mpr c22
            clear c22
            have H' := Aside0.mk H
            clear H
            obtain ⟨Ao23, co23, eo23⟩ := Kd.R_slice HO_3.out
            subst eo23
            have p585 : 0 ≤ (x4_1 : Int) := of_decide_eq_true asm
            have q585 : x4_1 < (t582.length : Int) := of_decide_eq_true asm
            obtain ⟨ad585, e585, hx585_0⟩ := Kd.at_int (Kd.R_reads' HO_3.out).2.2 x4_1 p585 q585
            cases e585
            replace p585 := eq_true p585
            replace q585 := eq_true q585
            have p586 : 0 ≤ ((ji15) : Int) := of_decide_eq_true asm
            have q586 : (ji15) < (t582.length : Int) := of_decide_eq_true asm
            obtain ⟨ad586, e586, hx586_0⟩ := Kd.at_int (Kd.R_reads' HO_3.out).2.2 (ji15) p586 q586
            obtain rfl : ad585 = ad586 := (by injection e586)
            replace p586 := eq_true p586
            replace q586 := eq_true q586
            have hcz24_0 : wr.cell? ⟨gb580, 0, none⟩ = some (.slice A0_0 l0_0.length c0_0) := (blk_cell BK580.out 0).trans rfl
            have hcz24_1 : wr.cell? ⟨gb580, 1, none⟩ = some (.slice A0_1 l0_1.length c0_1) := (blk_cell BK580.out 1).trans rfl
            have hfz24_0 := blk_frozen BK580.out 0
            have hfz24_1 := blk_frozen BK580.out 1
            have p587 : 0 ≤ ((rd t582 x4_1) : Int) := of_decide_eq_true asm
            have q587 : (rd t582 x4_1) < (l0_0.length : Int) := of_decide_eq_true asm
            obtain ⟨ad587, e587, hx587_0⟩ := Kd.at_int HR0_0.out (rd t582 x4_1) p587 q587
            cases e587
            (first | replace hx587_0 := (HB.out.cell (World.block_lt_of_cell? w _ hx587_0)).trans hx587_0 | skip)
            replace p587 := eq_true p587
            replace q587 := eq_true q587
            go_wp2_with (first | (go_at_call 43; (with_reducible refine (impl_at.calls _ _ l0_1 (wrap64 ((rd t582 x4_1) - 1)) t588 _ (cb HR0_1.out) HC0_1.out A21.out).mono ?_); rintro e w' ⟨rfl, ⟨nd, rfl⟩⟩; (try first | exact ⟨rfl, _, World.drewN_drewN _ _ _⟩ | exact ⟨rfl, _, Eq.trans (World.drewN_drewN _ _ _) (congrArg (World.drewN _) (Nat.add_assoc _ _ _))⟩)) | (go_at_call 43; (with_reducible refine (impl_at.calls _ _ l0_1 (IntKind.i64.wrap ((rd t582 x4_1) - 1)) t588 _ (cb HR0_1.out) HC0_1.out (by simpa only [i64_w] using A21.out)).mono ?_); rintro e w' ⟨rfl, ⟨nd, rfl⟩⟩; (try first | exact ⟨rfl, _, World.drewN_drewN _ _ _⟩ | exact ⟨rfl, _, Eq.trans (World.drewN_drewN _ _ _) (congrArg (World.drewN _) (Nat.add_assoc _ _ _))⟩)))
            repeat (go_quiet (first | (go_at_call 43; (with_reducible refine (impl_at.calls _ _ l0_1 (wrap64 ((rd t582 x4_1) - 1)) t588 _ (cb HR0_1.out) HC0_1.out A21.out).mono ?_); rintro e w' ⟨rfl, ⟨nd, rfl⟩⟩; (try first | exact ⟨rfl, _, World.drewN_drewN _ _ _⟩ | exact ⟨rfl, _, Eq.trans (World.drewN_drewN _ _ _) (congrArg (World.drewN _) (Nat.add_assoc _ _ _))⟩)) | (go_at_call 43; (with_reducible refine (impl_at.calls _ _ l0_1 (IntKind.i64.wrap ((rd t582 x4_1) - 1)) t588 _ (cb HR0_1.out) HC0_1.out (by simpa only [i64_w] using A21.out)).mono ?_); rintro e w' ⟨rfl, ⟨nd, rfl⟩⟩; (try first | exact ⟨rfl, _, World.drewN_drewN _ _ _⟩ | exact ⟨rfl, _, Eq.trans (World.drewN_drewN _ _ _) (congrArg (World.drewN _) (Nat.add_assoc _ _ _))⟩))); try go_wp2_with (first | (go_at_call 43; (with_reducible refine (impl_at.calls _ _ l0_1 (wrap64 ((rd t582 x4_1) - 1)) t588 _ (cb HR0_1.out) HC0_1.out A21.out).mono ?_); rintro e w' ⟨rfl, ⟨nd, rfl⟩⟩; (try first | exact ⟨rfl, _, World.drewN_drewN _ _ _⟩ | exact ⟨rfl, _, Eq.trans (World.drewN_drewN _ _ _) (congrArg (World.drewN _) (Nat.add_assoc _ _ _))⟩)) | (go_at_call 43; (with_reducible refine (impl_at.calls _ _ l0_1 (IntKind.i64.wrap ((rd t582 x4_1) - 1)) t588 _ (cb HR0_1.out) HC0_1.out (by simpa only [i64_w] using A21.out)).mono ?_); rintro e w' ⟨rfl, ⟨nd, rfl⟩⟩; (try first | exact ⟨rfl, _, World.drewN_drewN _ _ _⟩ | exact ⟨rfl, _, Eq.trans (World.drewN_drewN _ _ _) (congrArg (World.drewN _) (Nat.add_assoc _ _ _))⟩))))
            go_roundg k1
            case measure => have := HK1.out; omega
            case rel => exact ⟨(wrap64 (x4_1 + 1)), (by first | rfl | (simp; done) | (simp [*]; done)), H', ⟨by have := HK1.out; omega⟩, ⟨rk HO_3.out⟩, ⟨bk BK580.out⟩, ⟨bn HB.out⟩⟩
           ·rw [if_neg c22] at H
            have c22b0 : ((rd l0_0 (rd t582 x4_1)) == (wrap64 (t588 + 1))) = false := beq_eq_false_iff_ne.mpr c22
            have c22b1 : ((rd l0_0 (rd t582 x4_1)) != (wrap64 (t588 + 1))) = true := bne_iff_ne.mpr c22
            obtain rfl := Option.some.inj H
            obtain ⟨Ao25, co25, eo25⟩ := Kd.R_slice HO_3.out
            subst eo25
            have p585 : 0 ≤ (x4_1 : Int) := of_decide_eq_true asm
            have q585 : x4_1 < (t582.length : Int) := of_decide_eq_true asm
            obtain ⟨ad585, e585, hx585_0⟩ := Kd.at_int (Kd.R_reads' HO_3.out).2.2 x4_1 p585 q585
            cases e585
            replace p585 := eq_true p585
            replace q585 := eq_true q585
            have p586 : 0 ≤ ((ji15) : Int) := of_decide_eq_true asm
            have q586 : (ji15) < (t582.length : Int) := of_decide_eq_true asm
            obtain ⟨ad586, e586, hx586_0⟩ := Kd.at_int (Kd.R_reads' HO_3.out).2.2 (ji15) p586 q586
            obtain rfl : ad585 = ad586 := (by injection e586)
            replace p586 := eq_true p586
            replace q586 := eq_true q586
            have hcz26_0 : wr.cell? ⟨gb580, 0, none⟩ = some (.slice A0_0 l0_0.length c0_0) := (blk_cell BK580.out 0).trans rfl
            have hcz26_1 : wr.cell? ⟨gb580, 1, none⟩ = some (.slice A0_1 l0_1.length c0_1) := (blk_cell BK580.out 1).trans rfl
            have hfz26_0 := blk_frozen BK580.out 0
            have hfz26_1 := blk_frozen BK580.out 1
            have p587 : 0 ≤ ((rd t582 x4_1) : Int) := of_decide_eq_true asm
            have q587 : (rd t582 x4_1) < (l0_0.length : Int) := of_decide_eq_true asm
            obtain ⟨ad587, e587, hx587_0⟩ := Kd.at_int HR0_0.out (rd t582 x4_1) p587 q587
            cases e587
            (first | replace hx587_0 := (HB.out.cell (World.block_lt_of_cell? w _ hx587_0)).trans hx587_0 | skip)
            replace p587 := eq_true p587
            replace q587 := eq_true q587
            go_wp2_with (first | (go_at_call 43; (with_reducible refine (impl_at.calls _ _ l0_1 (wrap64 ((rd t582 x4_1) - 1)) t588 _ (cb HR0_1.out) HC0_1.out A21.out).mono ?_); rintro e w' ⟨rfl, ⟨nd, rfl⟩⟩; (try first | exact ⟨rfl, _, World.drewN_drewN _ _ _⟩ | exact ⟨rfl, _, Eq.trans (World.drewN_drewN _ _ _) (congrArg (World.drewN _) (Nat.add_assoc _ _ _))⟩)) | (go_at_call 43; (with_reducible refine (impl_at.calls _ _ l0_1 (IntKind.i64.wrap ((rd t582 x4_1) - 1)) t588 _ (cb HR0_1.out) HC0_1.out (by simpa only [i64_w] using A21.out)).mono ?_); rintro e w' ⟨rfl, ⟨nd, rfl⟩⟩; (try first | exact ⟨rfl, _, World.drewN_drewN _ _ _⟩ | exact ⟨rfl, _, Eq.trans (World.drewN_drewN _ _ _) (congrArg (World.drewN _) (Nat.add_assoc _ _ _))⟩)))
            repeat (go_quiet (first | (go_at_call 43; (with_reducible refine (impl_at.calls _ _ l0_1 (wrap64 ((rd t582 x4_1) - 1)) t588 _ (cb HR0_1.out) HC0_1.out A21.out).mono ?_); rintro e w' ⟨rfl, ⟨nd, rfl⟩⟩; (try first | exact ⟨rfl, _, World.drewN_drewN _ _ _⟩ | exact ⟨rfl, _, Eq.trans (World.drewN_drewN _ _ _) (congrArg (World.drewN _) (Nat.add_assoc _ _ _))⟩)) | (go_at_call 43; (with_reducible refine (impl_at.calls _ _ l0_1 (IntKind.i64.wrap ((rd t582 x4_1) - 1)) t588 _ (cb HR0_1.out) HC0_1.out (by simpa only [i64_w] using A21.out)).mono ?_); rintro e w' ⟨rfl, ⟨nd, rfl⟩⟩; (try first | exact ⟨rfl, _, World.drewN_drewN _ _ _⟩ | exact ⟨rfl, _, Eq.trans (World.drewN_drewN _ _ _) (congrArg (World.drewN _) (Nat.add_assoc _ _ _))⟩))); try go_wp2_with (first | (go_at_call 43; (with_reducible refine (impl_at.calls _ _ l0_1 (wrap64 ((rd t582 x4_1) - 1)) t588 _ (cb HR0_1.out) HC0_1.out A21.out).mono ?_); rintro e w' ⟨rfl, ⟨nd, rfl⟩⟩; (try first | exact ⟨rfl, _, World.drewN_drewN _ _ _⟩ | exact ⟨rfl, _, Eq.trans (World.drewN_drewN _ _ _) (congrArg (World.drewN _) (Nat.add_assoc _ _ _))⟩)) | (go_at_call 43; (with_reducible refine (impl_at.calls _ _ l0_1 (IntKind.i64.wrap ((rd t582 x4_1) - 1)) t588 _ (cb HR0_1.out) HC0_1.out (by simpa only [i64_w] using A21.out)).mono ?_); rintro e w' ⟨rfl, ⟨nd, rfl⟩⟩; (try first | exact ⟨rfl, _, World.drewN_drewN _ _ _⟩ | exact ⟨rfl, _, Eq.trans (World.drewN_drewN _ _ _) (congrArg (World.drewN _) (Nat.add_assoc _ _ _))⟩))))
            go_ret
            exact ⟨by first | rfl | (simp [errW_none, errW_some] <;> rfl) | (simp only [← hji15]; first | rfl | (simp [errW_none, errW_some] <;> rfl)) | (simp [*, errW_none, errW_some] <;> rfl), bn HB.out⟩
          ·rw [if_neg c20] at H
           exact absurd H (by simp)
         ·rw [if_neg c19] at H
          exact absurd H (by simp)
        ·rw [if_neg c18] at H
         have c18b0 : ((rd t582 (ji15)) == (wrap64 ((rd t582 x4_1) - 1))) = false := beq_eq_false_iff_ne.mpr c18
         have c18b1 : ((rd t582 (ji15)) != (wrap64 ((rd t582 x4_1) - 1))) = true := bne_iff_ne.mpr c18
         obtain rfl := Option.some.inj H
         obtain ⟨Ao27, co27, eo27⟩ := Kd.R_slice HO_3.out
         subst eo27
         have p585 : 0 ≤ (x4_1 : Int) := of_decide_eq_true asm
         have q585 : x4_1 < (t582.length : Int) := of_decide_eq_true asm
         obtain ⟨ad585, e585, hx585_0⟩ := Kd.at_int (Kd.R_reads' HO_3.out).2.2 x4_1 p585 q585
         cases e585
         replace p585 := eq_true p585
         replace q585 := eq_true q585
         have p586 : 0 ≤ ((ji15) : Int) := of_decide_eq_true asm
         have q586 : (ji15) < (t582.length : Int) := of_decide_eq_true asm
         obtain ⟨ad586, e586, hx586_0⟩ := Kd.at_int (Kd.R_reads' HO_3.out).2.2 (ji15) p586 q586
         obtain rfl : ad585 = ad586 := (by injection e586)
         replace p586 := eq_true p586
         replace q586 := eq_true q586
         go_wp2
         repeat (go_quiet (fail); try go_wp2)
         go_ret
         exact ⟨by first | rfl | (simp [errW_none, errW_some] <;> rfl) | (simp only [← hji15]; first | rfl | (simp [errW_none, errW_some] <;> rfl)) | (simp [*, errW_none, errW_some] <;> rfl), bn HB.out⟩
       ·rw [if_neg c17] at H
        exact absurd H (by simp)
      ·rw [if_neg c16] at H
       exact absurd H (by simp)
     ·rw [if_neg c14] at H
      exact absurd H (by simp)
    ·rw [if_neg c13] at H
     have c13b0 : decide (x4_1 < (t582.length : Int)) = false := decide_eq_false c13
     clear c13
     obtain rfl := Option.some.inj H
     obtain ⟨Ao28, co28, eo28⟩ := Kd.R_slice HO_3.out
     subst eo28
     go_wp2
     repeat (go_quiet (fail); try go_wp2)
     go_ret
     exact ⟨by first | rfl | (simp [errW_none, errW_some] <;> rfl) | (simp [*, errW_none, errW_some] <;> rfl), bn HB.out⟩

end Go.Proofs.YtkbomfpebhjaoaaGreatDoor.QFnShapes
