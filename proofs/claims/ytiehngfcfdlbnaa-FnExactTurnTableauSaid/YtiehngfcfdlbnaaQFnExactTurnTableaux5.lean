/- A text of this session's own program (wip/myprint.py): functions that the law FnExactTurnTableau reaches, as plain Lean functions, each with the proof that the call does just that. No condition beyond those that each statement bears. -/
import Derived.Test.YtiehngfcfdlbnaaQFnExactTurnTableaux0
import Derived.Test.YtiehngfcfdlbnaaQFnExactTurnTableaux3
import Derived.Test.YtiehngfcfdlbnaaQFnExactTurnTableaux4
namespace Go.Proofs.Ytiehngfcfdlbnaa.QFnExactTurnTableau
open Go.Proofs.Ytiehngfcfdlbnaa.Short Go.RowKit Go.Proofs.YtiehngfcfdlbnaaW.PrintWords Go.Proofs.YtiehngfcfdlbnaaW.PrintLast Go.Proofs.YtiehngfcfdlbnaaW.PrintMore
attribute [local go_sem] max2_int min2_int max_two min_two max_three min_three max_four min_four   -- for this text's walks alone
set_option linter.unusedVariables false
set_option linter.unusedSimpArgs false

/-! ### spec_l2Turn: function 66 -/
mutual
def spec_l2Turn.l0 : Nat → List Int → List Int → Int → Option (List Int)
 | 0, _, _, _ => none
 | k + 1, x0, x3, x4 => if (x0.length : Int) > 0 then (if 0 < (x0.length : Int) then (spec_l2Turn.j1 k x0 x3 x4 (decide (x4 < (rd x0 0)))) else (none)) else (spec_l2Turn.j1 k x0 x3 x4 false)
def spec_l2Turn.j1 : Nat → List Int → List Int → Int → Bool → Option (List Int)
 | 0, _, _, _, _ => none
 | k + 1, x0, x3, x4, x17 => if x17 = true then (spec_l2Turn.l1 k x0 x3 x4 0 0) else (some x3)
def spec_l2Turn.l1 : Nat → List Int → List Int → Int → Int → Int → Option (List Int)
 | 0, _, _, _, _, _ => none
 | k + 1, x0, x3, x4, x5, x6 => if x6 < (x0.length : Int) then (if 0 ≤ x6 then ((spec_l1Bit.f (decide ((rd x0 x6) > x4))).bind fun t216 => (spec_l2Turn.l1 k x0 x3 x4 (wrap64 (x5 + t216)) (wrap64 (x6 + 1)))) else (none)) else (if x3.length < 17592186044416 then (spec_l2Turn.l0 k x0 (x3 ++ [x5]) (wrap64 (x4 + 1))) else (none))
end
def spec_l2Turn.f (k : Nat) (l0 : List Int) : Option (List Int) := spec_l2Turn.l0 k l0 (([] : List Int)) 0
theorem spec_l2Turn.mono_l : ∀ k, (∀ y0 y1 y2, LeO (spec_l2Turn.l0 k y0 y1 y2) (spec_l2Turn.l0 (k + 1) y0 y1 y2)) ∧ (∀ y0 y1 y2 y3, LeO (spec_l2Turn.j1 k y0 y1 y2 y3) (spec_l2Turn.j1 (k + 1) y0 y1 y2 y3)) ∧ (∀ y0 y1 y2 y3 y4, LeO (spec_l2Turn.l1 k y0 y1 y2 y3 y4) (spec_l2Turn.l1 (k + 1) y0 y1 y2 y3 y4))
 | 0 => ⟨fun _ _ _ r h => by simp [spec_l2Turn.l0] at h, fun _ _ _ _ r h => by simp [spec_l2Turn.j1] at h, fun _ _ _ _ _ r h => by simp [spec_l2Turn.l1] at h⟩
 | k + 1 => by
  obtain ⟨ih0, ih1, ih2⟩ := spec_l2Turn.mono_l k
  refine ⟨?_, ?_, ?_⟩
  ·intro y0 y1 y2
   unfold spec_l2Turn.l0
   repeat' first
   | (with_reducible exact ih0 _ _ _)
   | (with_reducible exact ih1 _ _ _ _)
   | (with_reducible exact ih2 _ _ _ _ _)
   | (with_reducible exact LeO.refl _)
   | (with_reducible exact LeO.none _)
   | (with_reducible refine LeO.ite ?_ ?_)
   | (with_reducible refine LeO.bind ?_ (fun _ => ?_))
   | exact ih0 _ _ _
   | exact ih1 _ _ _ _
   | exact ih2 _ _ _ _ _
   | exact LeO.none _
   | refine LeO.ite ?_ ?_
   | refine LeO.bind ?_ (fun _ => ?_)
  ·intro y0 y1 y2 y3
   unfold spec_l2Turn.j1
   repeat' first
   | (with_reducible exact ih0 _ _ _)
   | (with_reducible exact ih1 _ _ _ _)
   | (with_reducible exact ih2 _ _ _ _ _)
   | (with_reducible exact LeO.refl _)
   | (with_reducible exact LeO.none _)
   | (with_reducible refine LeO.ite ?_ ?_)
   | (with_reducible refine LeO.bind ?_ (fun _ => ?_))
   | exact ih0 _ _ _
   | exact ih1 _ _ _ _
   | exact ih2 _ _ _ _ _
   | exact LeO.none _
   | refine LeO.ite ?_ ?_
   | refine LeO.bind ?_ (fun _ => ?_)
  ·intro y0 y1 y2 y3 y4
   unfold spec_l2Turn.l1
   repeat' first
   | (with_reducible exact ih0 _ _ _)
   | (with_reducible exact ih1 _ _ _ _)
   | (with_reducible exact ih2 _ _ _ _ _)
   | (with_reducible exact LeO.refl _)
   | (with_reducible exact LeO.none _)
   | (with_reducible refine LeO.ite ?_ ?_)
   | (with_reducible refine LeO.bind ?_ (fun _ => ?_))
   | exact ih0 _ _ _
   | exact ih1 _ _ _ _
   | exact ih2 _ _ _ _ _
   | exact LeO.none _
   | refine LeO.ite ?_ ?_
   | refine LeO.bind ?_ (fun _ => ?_)
theorem spec_l2Turn.mono : ∀ a0 k, LeO (spec_l2Turn.f k a0) (spec_l2Turn.f (k + 1) a0) := by
 intro a0 k
 obtain ⟨ih0, ih1, ih2⟩ := spec_l2Turn.mono_l k
 unfold spec_l2Turn.f
 repeat' first
   | (with_reducible exact ih0 _ _ _)
   | (with_reducible exact ih1 _ _ _ _)
   | (with_reducible exact ih2 _ _ _ _ _)
   | (with_reducible exact LeO.refl _)
   | (with_reducible exact LeO.none _)
   | (with_reducible refine LeO.ite ?_ ?_)
   | (with_reducible refine LeO.bind ?_ (fun _ => ?_))
   | exact ih0 _ _ _
   | exact ih1 _ _ _ _
   | exact ih2 _ _ _ _ _
   | exact LeO.none _
   | refine LeO.ite ?_ ?_
   | refine LeO.bind ?_ (fun _ => ?_)
set_option maxHeartbeats 8000000 in
set_option maxRecDepth 100000 in
theorem spec_l2Turn.calls (k : Nat) (A0 : Option Addr) (c0 : Nat) (l0 : List Int) (r : List Int) (w : World) (hr0 : Kd.C (Kd.int .i64) w A0 l0.length l0) (hc0 : l0.length ≤ c0) (h : spec_l2Turn.f k l0 = some r) :
  Calls Try.prog 66 #[.slice A0 l0.length c0] w fun e w' => ∃ v0_ : Value, e = .returned (v0_) ∧ Kd.R (Kd.int .i64) 3 w' w.heap.size (fun _ => True) v0_ r ∧ Below w.heap.size w w' := by
 have HR0 := Aside0.mk hr0
 have HC0 := Aside0.mk hc0
 clear hr0 hc0
 have HB := Aside0.mk (Below.refl w.heap.size w)
 have H : (spec_l2Turn.l0 k l0 (([] : List Int)) 0) = some r := h
 clear h
 obtain ⟨y211, hy211⟩ : ∃ y_ : List Int, y_ = (([] : List Int)) := ⟨_, rfl⟩
 replace H : (spec_l2Turn.l0 k l0 y211 0) = some r := by first | (rw [hy211]; with_reducible exact H) | (have H2_ := (Option.bind_some _ _).symm.trans H; rw [hy211]; with_reducible exact H2_) | (have H2_ := (Option.bind_some _ _).symm.trans H; with_reducible exact H2_) | with_reducible exact H | (rw [hy211]; exact H) | exact H
 have Ny211 := Aside0.mk hy211
 clear hy211
 have H' := Aside0.mk H
 clear H
 go_enter Try.func66, Try.ntmps66
 go_wp2_with (first | ((with_reducible refine gate_dst (N := 7) rfl ?_); refine Kd.R_lit (Kd.int .i64) _ 3 ?hg (N := 7) ?hd (xs := ([] : List Int)) (inner := []) (ok := fun _ => True) (okp := fun _ => True) ?hr ?hp (fun _ hk => hk) trivial (Below.refl _ _) (Nat.le_refl _) (by simp) ?_; (case hd => rfl); (case hg => rfl); (case hr => first | (go_simp; done) | (go_simp; rfl)); (case hp => exact (Reps.none _ _)); intro v212 w2 ho3 hb hg_ hnew_; clear hg_ hnew_; (first | rw [← Ny211.out] at ho3 | (simp only [Int.reduceToNat] at ho3; rw [← Ny211.out] at ho3)); have n0_ := Aside0.mk (Kd.R_lower ho3 (below_size bnow)); have n1_ := Aside0.mk (below_step bnow hb); clear HB; have HO213 := n0_; have HB := n1_; clear n0_ n1_; clear hb ho3))
 go_loopg [3, 4] k (fun kq v3 v4 w' => ∃ (x3_1 : List Int) (x4_1 : Int), v4 = .int .i64 x4_1 ∧ Aside0 (spec_l2Turn.l0 kq l0 x3_1 x4_1 = some r) ∧ Aside0 (kq ≤ k) ∧ Aside0 (Kd.R (Kd.int .i64) 3 w' w.heap.size (fun _ => True) v3 x3_1) ∧ Aside0 (Below w.heap.size w w'))
 case atStart => exact ⟨(y211), (0), (by first | rfl | (simp; done) | (simp [*]; done)), H', ⟨Nat.le_refl _⟩, ⟨rk HO213.out⟩, ⟨by repeat (first | (with_reducible first | exact HB.out | apply below_alloc | apply pw_below_drewN | apply below_drew1) | exact HB.out)⟩⟩
 case round =>
  clear H'
  try clear p2
  obtain ⟨x3_1, x4_1, rfl, HA, HK1, HO_3, HB⟩ := hrel
  cases gk with
  | zero => exact absurd HA.out (by simp [spec_l2Turn.l0])
  | succ k1 =>
   have H := HA.out
   clear HA
   simp only [spec_l2Turn.l0] at H
   have HC4 := Aside0.mk H
   clear H
   go_upto_region 3 with (fail)
   go_cut [17] (fun v17 wc => ∃ (kq : Nat) (x17_3 : Bool), v17 = .bool x17_3 ∧ Aside0 (spec_l2Turn.j1 kq l0 x3_1 x4_1 x17_3 = some r) ∧ Aside0 (kq ≤ k1) ∧ Aside0 (Kd.R (Kd.int .i64) 3 wc w.heap.size (fun _ => True) u3 x3_1) ∧ Aside0 (Below w.heap.size w wc))
   case first =>
    have H := HC4.out
    clear HC4
    by_cases c5 : (l0.length : Int) > 0
    ·rw [if_pos c5] at H
     have c5b0 : decide (0 < (l0.length : Int)) = true := decide_eq_true c5
     have c5b1 : decide (0 < l0.length) = true := decide_eq_true (by omega)
     clear c5
     (first | rw [c5b0] | rw [c5b1] | (simp only [i64_w, i32_w]; rw [c5b0]) | skip)
     by_cases c6 : 0 < (l0.length : Int)
     ·rw [if_pos c6] at H
      have c6b0 : decide (0 < (l0.length : Int)) = true := decide_eq_true c6
      have c6b1 : decide (0 < l0.length) = true := decide_eq_true (by omega)
      clear c6
      have H' := Aside0.mk H
      clear H
      have p214 : 0 ≤ (0 : Int) := (by omega)
      have q214 : 0 < (l0.length : Int) := of_decide_eq_true (by first | (with_reducible assumption) | assumption)
      obtain ⟨ad214, e214, hx214_0⟩ := Kd.at_int HR0.out 0 p214 q214
      cases e214
      have qi214 : (0 < l0.length) = True := eq_true (by omega)
      (try rw [show ((0 : Int)).toNat = 0 from rfl] at hx214_0)
      (try rw [Addr.add_zero'] at hx214_0)
      (first | replace hx214_0 := (HB.out.cell (World.block_lt_of_cell? w _ hx214_0)).trans hx214_0 | skip)
      replace p214 := eq_true p214
      replace q214 := eq_true q214
      go_wp2
      go_meet
      case rel => exact ⟨_, (decide (x4_1 < (rd l0 0))), (by first | rfl | (simp; done) | (simp [*]; done)), H', ⟨by have := HK1.out; first | omega | exact Nat.le_refl _⟩, ⟨rk HO_3.out⟩, ⟨by repeat (first | (with_reducible first | exact HB.out | apply below_alloc | apply pw_below_drewN | apply below_drew1) | exact HB.out)⟩⟩
     ·rw [if_neg c6] at H
      exact absurd H (by simp)
    ·rw [if_neg c5] at H
     have c5b0 : decide (0 < (l0.length : Int)) = false := decide_eq_false c5
     have c5b1 : decide (0 < l0.length) = false := decide_eq_false (by omega)
     clear c5
     (first | rw [c5b0] | rw [c5b1] | (simp only [i64_w, i32_w]; rw [c5b0]) | skip)
     have H' := Aside0.mk H
     clear H
     go_wp2
     go_meet
     case rel => exact ⟨_, (false), (by first | rfl | (simp; done) | (simp [*]; done)), H', ⟨by have := HK1.out; first | omega | exact Nat.le_refl _⟩, ⟨rk HO_3.out⟩, ⟨by repeat (first | (with_reducible first | exact HB.out | apply below_alloc | apply pw_below_drewN | apply below_drew1) | exact HB.out)⟩⟩
   case rest =>
    clear HC4
    try clear p2
    try clear q2
    try clear hx2
    try clear qi2
    try clear c5
    try clear c5b0
    try clear c5b1
    try clear c6
    try clear c6b0
    try clear c6b1
    try clear hx214_0
    try clear p2
    try clear p214
    try clear q214
    obtain ⟨kq, x17_3, rfl, HA, HJ3, HO_3, HB⟩ := hcut
    cases kq with
    | zero => exact absurd HA.out (by simp [spec_l2Turn.j1])
    | succ kj3 =>
     have H := HA.out
     clear HA
     simp only [spec_l2Turn.j1] at H
     by_cases c7 : x17_3 = true
     ·subst c7
      have H1 : (spec_l2Turn.l1 kj3 l0 x3_1 x4_1 0 0) = some r := by rw [if_pos rfl] at H; exact H
      clear H
      have H := H1
      clear H1
      have H' := Aside0.mk H
      clear H
      go_wp2
      go_loopg [5, 6] kj3 (fun kq v5 v6 w' => ∃ (x5_3 : Int) (x6_3 : Int), v5 = .int .i64 x5_3 ∧ v6 = .int .i64 x6_3 ∧ Aside0 (spec_l2Turn.l1 kq l0 x3_1 x4_1 x5_3 x6_3 = some r) ∧ Aside0 (kq ≤ kj3) ∧ Aside0 (Kd.R (Kd.int .i64) 3 w' w.heap.size (fun _ => True) u3 x3_1) ∧ Aside0 (Below w.heap.size w w'))
      case atStart => exact ⟨(0), (0), (by first | rfl | (simp; done) | (simp [*]; done)), (by first | rfl | (simp; done) | (simp [*]; done)), H', ⟨Nat.le_refl _⟩, ⟨rk HO_3.out⟩, ⟨by repeat (first | (with_reducible first | exact HB.out | apply below_alloc | apply pw_below_drewN | apply below_drew1) | exact HB.out)⟩⟩
      case round =>
       clear H'
       try clear p2
       try clear q2
       try clear hx2
       try clear qi2
       try clear c5
       try clear c5b0
       try clear c5b1
       try clear c6
       try clear c6b0
       try clear c6b1
       try clear c7
       try clear hx214_0
       try clear p2
       try clear p214
       try clear q2
       try clear q214
       obtain ⟨x5_3, x6_3, rfl, rfl, HA, HK3, HO_3, HB⟩ := hrel
       cases gk with
       | zero => exact absurd HA.out (by simp [spec_l2Turn.l1])
       | succ k3 =>
        have H := HA.out
        clear HA
        simp only [spec_l2Turn.l1] at H
        by_cases c8 : x6_3 < (l0.length : Int)
        ·rw [if_pos c8] at H
         have c8b0 : decide (x6_3 < (l0.length : Int)) = true := decide_eq_true c8
         clear c8
         by_cases c9 : 0 ≤ x6_3
         ·rw [if_pos c9] at H
          have c9b0 : decide (0 ≤ x6_3) = true := decide_eq_true c9
          clear c9
          replace H := Option.bind_eq_some_iff.mp H
          obtain ⟨t216, A100, H⟩ := H
          replace H : (spec_l2Turn.l1 k3 l0 x3_1 x4_1 (wrap64 (x5_3 + t216)) (wrap64 (x6_3 + 1))) = some r := H
          have A10 := Aside0.mk A100
          clear A100
          have H' := Aside0.mk H
          clear H
          have p215 : 0 ≤ (x6_3 : Int) := of_decide_eq_true (by first | (with_reducible assumption) | assumption)
          have q215 : x6_3 < (l0.length : Int) := of_decide_eq_true (by first | (with_reducible assumption) | assumption)
          obtain ⟨ad215, e215, hx215_0⟩ := Kd.at_int HR0.out x6_3 p215 q215
          cases e215
          (first | replace hx215_0 := (HB.out.cell (World.block_lt_of_cell? w _ hx215_0)).trans hx215_0 | skip)
          replace p215 := eq_true p215
          replace q215 := eq_true q215
          go_wp2_with (first | ((with_reducible refine gate_callee (f := 73) rfl ?_); refine goesL_ (some 33) rfl rfl Try.func73 (by kernel_rfl) rfl #[.bool (decide ((rd l0 x6_3) > x4_1))] rfl lm ?_; (with_reducible refine (spec_l1Bit.calls (decide ((rd l0 x6_3) > x4_1)) t216 _ A10.out).mono ?_); rintro e w' ⟨rfl, ⟨nd, rfl⟩⟩; refine ⟨_, rfl, ?_⟩))
          go_roundg k3
          case measure => have := HK1.out; have := HJ3.out; have := HK3.out; omega
          case rel => exact ⟨(wrap64 (x5_3 + t216)), (wrap64 (x6_3 + 1)), (by first | rfl | (simp; done) | (simp [*]; done)), (by first | rfl | (simp; done) | (simp [*]; done)), H', ⟨by have := HK1.out; have := HJ3.out; have := HK3.out; omega⟩, ⟨rk HO_3.out⟩, ⟨by repeat (first | (with_reducible first | exact HB.out | apply below_alloc | apply pw_below_drewN | apply below_drew1) | exact HB.out)⟩⟩
         ·rw [if_neg c9] at H
          exact absurd H (by simp)
        ·rw [if_neg c8] at H
         have c8b0 : decide (x6_3 < (l0.length : Int)) = false := decide_eq_false c8
         clear c8
         by_cases c11 : x3_1.length < 17592186044416
         ·rw [if_pos c11] at H
          have LMc11 := Aside0.mk c11
          clear c11
          obtain ⟨y217, hy217⟩ : ∃ y_ : List Int, y_ = (x3_1 ++ [x5_3]) := ⟨_, rfl⟩
          replace H : (spec_l2Turn.l0 k3 l0 y217 (wrap64 (x4_1 + 1))) = some r := by first | (rw [hy217]; with_reducible exact H) | (have H2_ := (Option.bind_some _ _).symm.trans H; rw [hy217]; with_reducible exact H2_) | (have H2_ := (Option.bind_some _ _).symm.trans H; with_reducible exact H2_) | with_reducible exact H | (rw [hy217]; exact H) | exact H
          have Ny217 := Aside0.mk hy217
          clear hy217
          have H' := Aside0.mk H
          clear H
          go_wp2_with (first | ((with_reducible refine gate_builtin (b := .append) (xs := #[.tmp 35, .tmp 37]) rfl ?_); at_builtin; refine Kd.R_append (Kd.int .i64) (w0 := w) w.heap.size rfl (.tmp 35) (.tmp 37) 22 3 (.int .i64 0) 8 rfl Try.underlying22 info3 rfl (by decide) (by omega) u3 x3_1 x5_3 [.int .i64 x5_3] (fun _ => True) (fun _ => False) rfl rfl ?aP (fun _ hk => hk.elim) ?aF ?aO ?aB ?aS ?aL ?_; (case aP => exact rfl); (case aB => exact bnow); (case aF => exact (fun _ _ => trivial)); (case aO => exact (rk HO_3.out)); (case aS => exact (below_size bnow)); (case aL => have := LMc11.out; omega); intro v218 w12 ho hb hg hat; rw [← Ny217.out] at ho; have n0_ := Aside0.mk (hb); have n1_ := Aside0.mk (ho); clear HB; clear HO_3; have HB := n0_; have HO219 := n1_; clear n0_ n1_; clear ho hb hg hat))
          go_roundg k3
          case measure => have := HK1.out; have := HJ3.out; have := HK3.out; omega
          case rel => exact ⟨(y217), (wrap64 (x4_1 + 1)), (by first | rfl | (simp; done) | (simp [*]; done)), H', ⟨by have := HK1.out; have := HJ3.out; have := HK3.out; omega⟩, ⟨rk HO219.out⟩, ⟨by repeat (first | (with_reducible first | exact HB.out | apply below_alloc | apply pw_below_drewN | apply below_drew1) | exact HB.out)⟩⟩
         ·rw [if_neg c11] at H
          exact absurd H (by simp)
     ·replace c7 := Bool.eq_false_iff.mpr c7
      subst c7
      have H1 : (some x3_1) = some r := by rw [if_neg (show ¬ (false = true) by decide)] at H; exact H
      clear H
      have H := H1
      clear H1
      obtain rfl := Option.some.inj H
      go_wp2
      go_ret
      exact ⟨_, by first | rfl | (simp [errW_none, errW_some] <;> rfl) | (simp [*, errW_none, errW_some] <;> rfl), by (with_reducible repeat (first | apply Kd.R_alloc | apply Kd.R_drewN | apply Kd.R_drew)); exact HO_3.out, by repeat (first | (with_reducible first | exact HB.out | apply below_alloc | apply pw_below_drewN | apply below_drew1) | exact HB.out)⟩

/-! ### spec_TurnTableau: function 35 -/
mutual
def spec_TurnTableau.j0 : Nat → Int → List Int → List (List Int) → List Int → List Int → List Int → Option (List Int × (List (List Int)) × Bool)
 | 0, _, _, _, _, _, _ => none
 | k + 1, x7, x221000, x221001, x231000, x231001, x235000 => spec_TurnTableau.l0 k x7 0 x221000 x221001 x231000 x231001 x235000 ([] : List (List Int))
def spec_TurnTableau.l0 : Nat → Int → Int → List Int → List (List Int) → List Int → List Int → List Int → List (List Int) → Option (List Int × (List (List Int)) × Bool)
 | 0, _, _, _, _, _, _, _, _ => none
 | k + 1, x7, x8, x221000, x221001, x231000, x231001, x235000, x235001 => if x8 < x7 then (spec_TurnTableau.l1 k x7 x8 (([] : List Int)) 0 x221000 x221001 x231000 x231001 x235000 x235001) else (some (x235000, x235001, true))
def spec_TurnTableau.l1 : Nat → Int → Int → List Int → Int → List Int → List (List Int) → List Int → List Int → List Int → List (List Int) → Option (List Int × (List (List Int)) × Bool)
 | 0, _, _, _, _, _, _, _, _, _, _ => none
 | k + 1, x7, x8, x9, x10, x221000, x221001, x231000, x231001, x235000, x235001 => if x10 < (x231000.length : Int) then ((spec_l5Entry.f k x221000 x221001 x10 x8).bind fun t242 => (if t242 > 0 then ((spec_l5Entry.f k x221000 x221001 x10 x8).bind fun t243 => (if x9.length < 17592186044416 then (spec_TurnTableau.l1 k x7 x8 (x9 ++ [t243]) (wrap64 (x10 + 1)) x221000 x221001 x231000 x231001 x235000 x235001) else (none))) else (spec_TurnTableau.l1 k x7 x8 x9 (wrap64 (x10 + 1)) x221000 x221001 x231000 x231001 x235000 x235001))) else (if x235001.length < 5864062014805 then (spec_TurnTableau.l0 k x7 (wrap64 (x8 + 1)) x221000 x221001 x231000 x231001 x235000 (x235001 ++ [x9])) else (none))
end
def spec_TurnTableau.f (k : Nat) (l0_0 : List Int) (l0_1 : List (List Int)) : Option (List Int × (List (List Int)) × Bool) := (spec_IsStandard.f k l0_0 l0_1).bind fun t222 => (if t222 = true then ((spec_ShapeOf.f k l0_0 l0_1).bind fun bt223 => ((spec_l2Turn.f k bt223.2.1).bind fun t231 => (if (bt223.1.length : Int) > 0 then (if 0 < (bt223.1.length : Int) then (spec_TurnTableau.j0 k (rd bt223.1 0) l0_0 l0_1 bt223.1 bt223.2.1 t231) else (none)) else (spec_TurnTableau.j0 k 0 l0_0 l0_1 bt223.1 bt223.2.1 t231)))) else (some (([] : List Int), ([] : List (List Int)), false)))
theorem spec_TurnTableau.mono_l : ∀ k, (∀ y0 y1 y2 y3 y4 y5, LeO (spec_TurnTableau.j0 k y0 y1 y2 y3 y4 y5) (spec_TurnTableau.j0 (k + 1) y0 y1 y2 y3 y4 y5)) ∧ (∀ y0 y1 y2 y3 y4 y5 y6 y7, LeO (spec_TurnTableau.l0 k y0 y1 y2 y3 y4 y5 y6 y7) (spec_TurnTableau.l0 (k + 1) y0 y1 y2 y3 y4 y5 y6 y7)) ∧ (∀ y0 y1 y2 y3 y4 y5 y6 y7 y8 y9, LeO (spec_TurnTableau.l1 k y0 y1 y2 y3 y4 y5 y6 y7 y8 y9) (spec_TurnTableau.l1 (k + 1) y0 y1 y2 y3 y4 y5 y6 y7 y8 y9))
 | 0 => ⟨fun _ _ _ _ _ _ r h => by simp [spec_TurnTableau.j0] at h, fun _ _ _ _ _ _ _ _ r h => by simp [spec_TurnTableau.l0] at h, fun _ _ _ _ _ _ _ _ _ _ r h => by simp [spec_TurnTableau.l1] at h⟩
 | k + 1 => by
  obtain ⟨ih0, ih1, ih2⟩ := spec_TurnTableau.mono_l k
  refine ⟨?_, ?_, ?_⟩
  ·intro y0 y1 y2 y3 y4 y5
   unfold spec_TurnTableau.j0
   repeat' first
   | (with_reducible exact ih0 _ _ _ _ _ _)
   | (with_reducible exact ih1 _ _ _ _ _ _ _ _)
   | (with_reducible exact ih2 _ _ _ _ _ _ _ _ _ _)
   | (with_reducible exact spec_IsStandard.mono _ _ _)
   | (with_reducible exact spec_ShapeOf.mono _ _ _)
   | (with_reducible exact spec_l2Turn.mono _ _)
   | (with_reducible exact spec_l5Entry.mono _ _ _ _ _)
   | (with_reducible exact LeO.refl _)
   | (with_reducible exact LeO.none _)
   | (with_reducible refine LeO.ite ?_ ?_)
   | (with_reducible refine LeO.bind ?_ (fun _ => ?_))
   | exact ih0 _ _ _ _ _ _
   | exact ih1 _ _ _ _ _ _ _ _
   | exact ih2 _ _ _ _ _ _ _ _ _ _
   | exact spec_IsStandard.mono _ _ _
   | exact spec_ShapeOf.mono _ _ _
   | exact spec_l2Turn.mono _ _
   | exact spec_l5Entry.mono _ _ _ _ _
   | exact LeO.none _
   | refine LeO.ite ?_ ?_
   | refine LeO.bind ?_ (fun _ => ?_)
  ·intro y0 y1 y2 y3 y4 y5 y6 y7
   unfold spec_TurnTableau.l0
   repeat' first
   | (with_reducible exact ih0 _ _ _ _ _ _)
   | (with_reducible exact ih1 _ _ _ _ _ _ _ _)
   | (with_reducible exact ih2 _ _ _ _ _ _ _ _ _ _)
   | (with_reducible exact spec_IsStandard.mono _ _ _)
   | (with_reducible exact spec_ShapeOf.mono _ _ _)
   | (with_reducible exact spec_l2Turn.mono _ _)
   | (with_reducible exact spec_l5Entry.mono _ _ _ _ _)
   | (with_reducible exact LeO.refl _)
   | (with_reducible exact LeO.none _)
   | (with_reducible refine LeO.ite ?_ ?_)
   | (with_reducible refine LeO.bind ?_ (fun _ => ?_))
   | exact ih0 _ _ _ _ _ _
   | exact ih1 _ _ _ _ _ _ _ _
   | exact ih2 _ _ _ _ _ _ _ _ _ _
   | exact spec_IsStandard.mono _ _ _
   | exact spec_ShapeOf.mono _ _ _
   | exact spec_l2Turn.mono _ _
   | exact spec_l5Entry.mono _ _ _ _ _
   | exact LeO.none _
   | refine LeO.ite ?_ ?_
   | refine LeO.bind ?_ (fun _ => ?_)
  ·intro y0 y1 y2 y3 y4 y5 y6 y7 y8 y9
   unfold spec_TurnTableau.l1
   repeat' first
   | (with_reducible exact ih0 _ _ _ _ _ _)
   | (with_reducible exact ih1 _ _ _ _ _ _ _ _)
   | (with_reducible exact ih2 _ _ _ _ _ _ _ _ _ _)
   | (with_reducible exact spec_IsStandard.mono _ _ _)
   | (with_reducible exact spec_ShapeOf.mono _ _ _)
   | (with_reducible exact spec_l2Turn.mono _ _)
   | (with_reducible exact spec_l5Entry.mono _ _ _ _ _)
   | (with_reducible exact LeO.refl _)
   | (with_reducible exact LeO.none _)
   | (with_reducible refine LeO.ite ?_ ?_)
   | (with_reducible refine LeO.bind ?_ (fun _ => ?_))
   | exact ih0 _ _ _ _ _ _
   | exact ih1 _ _ _ _ _ _ _ _
   | exact ih2 _ _ _ _ _ _ _ _ _ _
   | exact spec_IsStandard.mono _ _ _
   | exact spec_ShapeOf.mono _ _ _
   | exact spec_l2Turn.mono _ _
   | exact spec_l5Entry.mono _ _ _ _ _
   | exact LeO.none _
   | refine LeO.ite ?_ ?_
   | refine LeO.bind ?_ (fun _ => ?_)
theorem spec_TurnTableau.mono : ∀ a0 a1 k, LeO (spec_TurnTableau.f k a0 a1) (spec_TurnTableau.f (k + 1) a0 a1) := by
 intro a0 a1 k
 obtain ⟨ih0, ih1, ih2⟩ := spec_TurnTableau.mono_l k
 unfold spec_TurnTableau.f
 repeat' first
   | (with_reducible exact ih0 _ _ _ _ _ _)
   | (with_reducible exact ih1 _ _ _ _ _ _ _ _)
   | (with_reducible exact ih2 _ _ _ _ _ _ _ _ _ _)
   | (with_reducible exact spec_IsStandard.mono _ _ _)
   | (with_reducible exact spec_ShapeOf.mono _ _ _)
   | (with_reducible exact spec_l2Turn.mono _ _)
   | (with_reducible exact spec_l5Entry.mono _ _ _ _ _)
   | (with_reducible exact LeO.refl _)
   | (with_reducible exact LeO.none _)
   | (with_reducible refine LeO.ite ?_ ?_)
   | (with_reducible refine LeO.bind ?_ (fun _ => ?_))
   | exact ih0 _ _ _ _ _ _
   | exact ih1 _ _ _ _ _ _ _ _
   | exact ih2 _ _ _ _ _ _ _ _ _ _
   | exact spec_IsStandard.mono _ _ _
   | exact spec_ShapeOf.mono _ _ _
   | exact spec_l2Turn.mono _ _
   | exact spec_l5Entry.mono _ _ _ _ _
   | exact LeO.none _
   | refine LeO.ite ?_ ?_
   | refine LeO.bind ?_ (fun _ => ?_)
set_option maxHeartbeats 8000000 in
set_option maxRecDepth 100000 in
theorem spec_TurnTableau.calls (k : Nat) (A0_0 : Option Addr) (c0_0 : Nat) (l0_0 : List Int) (A0_1 : Option Addr) (c0_1 : Nat) (l0_1 : List (List Int)) (r1 : List Int) (r2 : List (List Int)) (r3 : Bool) (w : World) (hr0_0 : Kd.C (Kd.int .i64) w A0_0 l0_0.length l0_0) (hc0_0 : l0_0.length ≤ c0_0) (hr0_1 : Kd.C (Kd.slice 3 (Kd.int .i64)) w A0_1 l0_1.length l0_1) (hc0_1 : l0_1.length ≤ c0_1) (h : spec_TurnTableau.f k l0_0 l0_1 = some (r1, r2, r3)) :
  Calls Try.prog 35 #[.agg #[.slice A0_0 l0_0.length c0_0, .slice A0_1 l0_1.length c0_1]] w fun e w' => ∃ v0_ v1_ : Value, e = .returned (.tuple #[.agg #[v0_, v1_], .bool r3]) ∧ Kd.R (Kd.int .i64) 3 w' w.heap.size (fun _ => True) v0_ r1 ∧ Kd.S (Kd.slice 3 (Kd.int .i64)) 22 w' w.heap.size (fun k_ => some k_ ≠ (v0_ : Value).ownBlock) v1_ r2 ∧ Below w.heap.size w w' := by
 have hu28 := Try.underlying28
 have hu34 := Try.underlying34
 have HR0_0 := Aside0.mk hr0_0
 have HC0_0 := Aside0.mk hc0_0
 clear hr0_0 hc0_0
 have HR0_1 := Aside0.mk hr0_1
 have HC0_1 := Aside0.mk hc0_1
 clear hr0_1 hc0_1
 have HB := Aside0.mk (Below.refl w.heap.size w)
 have H : ((spec_IsStandard.f k l0_0 l0_1).bind fun t222 => (if t222 = true then ((spec_ShapeOf.f k l0_0 l0_1).bind fun bt223 => ((spec_l2Turn.f k bt223.2.1).bind fun t231 => (if (bt223.1.length : Int) > 0 then (if 0 < (bt223.1.length : Int) then (spec_TurnTableau.j0 k (rd bt223.1 0) l0_0 l0_1 bt223.1 bt223.2.1 t231) else (none)) else (spec_TurnTableau.j0 k 0 l0_0 l0_1 bt223.1 bt223.2.1 t231)))) else (some (([] : List Int), ([] : List (List Int)), false)))) = some (r1, r2, r3) := h
 clear h
 replace H := Option.bind_eq_some_iff.mp H
 obtain ⟨t222, A20, H⟩ := H
 replace H : (if t222 = true then ((spec_ShapeOf.f k l0_0 l0_1).bind fun bt223 => ((spec_l2Turn.f k bt223.2.1).bind fun t231 => (if (bt223.1.length : Int) > 0 then (if 0 < (bt223.1.length : Int) then (spec_TurnTableau.j0 k (rd bt223.1 0) l0_0 l0_1 bt223.1 bt223.2.1 t231) else (none)) else (spec_TurnTableau.j0 k 0 l0_0 l0_1 bt223.1 bt223.2.1 t231)))) else (some (([] : List Int), ([] : List (List Int)), false))) = some (r1, r2, r3) := H
 have A2 := Aside0.mk A20
 clear A20
 by_cases c3 : t222 = true
 ·subst c3
  have H1 : ((spec_ShapeOf.f k l0_0 l0_1).bind fun bt223 => ((spec_l2Turn.f k bt223.2.1).bind fun t231 => (if (bt223.1.length : Int) > 0 then (if 0 < (bt223.1.length : Int) then (spec_TurnTableau.j0 k (rd bt223.1 0) l0_0 l0_1 bt223.1 bt223.2.1 t231) else (none)) else (spec_TurnTableau.j0 k 0 l0_0 l0_1 bt223.1 bt223.2.1 t231)))) = some (r1, r2, r3) := by rw [if_pos rfl] at H; exact H
  clear H
  have H := H1
  clear H1
  replace H := Option.bind_eq_some_iff.mp H
  obtain ⟨⟨t223, t226, t229⟩, A40, H⟩ := H
  replace H : ((spec_l2Turn.f k t226).bind fun t231 => (if (t223.length : Int) > 0 then (if 0 < (t223.length : Int) then (spec_TurnTableau.j0 k (rd t223 0) l0_0 l0_1 t223 t226 t231) else (none)) else (spec_TurnTableau.j0 k 0 l0_0 l0_1 t223 t226 t231))) = some (r1, r2, r3) := H
  have A4 := Aside0.mk A40
  clear A40
  replace H := Option.bind_eq_some_iff.mp H
  obtain ⟨t231, A50, H⟩ := H
  replace H : (if (t223.length : Int) > 0 then (if 0 < (t223.length : Int) then (spec_TurnTableau.j0 k (rd t223 0) l0_0 l0_1 t223 t226 t231) else (none)) else (spec_TurnTableau.j0 k 0 l0_0 l0_1 t223 t226 t231)) = some (r1, r2, r3) := H
  have A5 := Aside0.mk A50
  clear A50
  have HC6 := Aside0.mk H
  clear H
  go_enter Try.func35, Try.ntmps35
  go_upto_if 27 with (first | ((with_reducible refine gate_dst (N := 1) rfl ?_); refine box_event ?hg (N := 1) ?hd (cs := #[.slice A0_0 l0_0.length c0_0, .slice A0_1 l0_1.length c0_1]) (t := 28) ?hr ?_; (case hd => rfl); (case hg => rfl); (case hr => first | (go_simp; done) | (go_simp; rfl)); intro gb220 hg w7 hbox hb; have n0_ := Aside0.mk (below_step bnow hb); have n1_ := Aside0.mk (hbox); have n2_ := Aside0.mk ((by rw [hg]; exact (below_size bnow) : w.heap.size ≤ gb220)); have n3_ := Aside0.mk ((by rw [hg]; exact (below_size bnow) : w.heap.size ≤ gb220)); clear HB; have HB := n0_; have BK220 := n1_; have GW220 := n2_; have GE220 := n3_; clear n0_ n1_ n2_ n3_; clear hb hbox hg) | ((with_reducible refine gate_dst (N := 2) rfl ?_); refine box_event ?hg (N := 2) ?hd (cs := #[.slice none 0 0, .slice none 0 0]) (t := 28) ?hr ?_; (case hd => rfl); (case hg => rfl); (case hr => first | (go_simp; done) | (go_simp; rfl)); intro gb221 hg w8 hbox hb; have n0_ := Aside0.mk (blk_below (bk BK220.out) hb); have n1_ := Aside0.mk (below_step bset hb); have n2_ := Aside0.mk (hbox); have n3_ := Aside0.mk ((by rw [hg]; exact (below_size bset) : w.heap.size ≤ gb221)); have n4_ := Aside0.mk ((by rw [hg]; exact (below_size bset) : w.heap.size ≤ gb221)); have n5_ := Aside0.mk ((by rw [hg]; exact Nat.ne_of_lt (blk_lt (g := gb220) (o := .cells #[.slice A0_0 l0_0.length c0_0, .slice A0_1 l0_1.length c0_1] 28 (0, 0)) (bk BK220.out)) : gb220 ≠ gb221)); have n6_ := Aside0.mk ((by rw [hg]; exact Nat.ne_of_gt (blk_lt (g := gb220) (o := .cells #[.slice A0_0 l0_0.length c0_0, .slice A0_1 l0_1.length c0_1] 28 (0, 0)) (bk BK220.out)) : gb221 ≠ gb220)); clear BK220; clear HB; have BK220 := n0_; have HB := n1_; have BK221 := n2_; have GW221 := n3_; have GE221 := n4_; have NB220_221 := n5_; have NB221_220 := n6_; clear n0_ n1_ n2_ n3_ n4_ n5_ n6_; clear hb hbox hg; have hnb9 := NB220_221.out; have hnc9 := NB221_220.out; have hcz10_0 : w8.cell? ⟨gb220, 0, none⟩ = some (.slice A0_0 l0_0.length c0_0) := (blk_cell BK220.out 0).trans rfl; have hcz10_1 : w8.cell? ⟨gb220, 1, none⟩ = some (.slice A0_1 l0_1.length c0_1) := (blk_cell BK220.out 1).trans rfl; have hfz10_0 := blk_frozen BK220.out 0; have hfz10_1 := blk_frozen BK220.out 1) | ((with_reducible refine gate_callee (f := 26) rfl ?_); refine goesL_ (some 12) rfl rfl Try.func26 (by kernel_rfl) rfl #[.agg #[.slice A0_0 l0_0.length c0_0, .slice A0_1 l0_1.length c0_1]] rfl lm ?_; (with_reducible refine (spec_IsStandard.calls k _ _ l0_0 _ _ l0_1 true _ ?side1 ?side2 ?side3 ?side4 A2.out).mono ?_); (case side1 => exact cb HR0_0.out); (case side2 => exact HC0_0.out); (case side3 => exact cb HR0_1.out); (case side4 => exact HC0_1.out); rintro e w11 ⟨rfl, hb⟩; refine ⟨_, rfl, ?_⟩; have n0_ := Aside0.mk (blk_below (bk BK220.out) hb); have n1_ := Aside0.mk (blk_below (bk BK221.out) hb); have n2_ := Aside0.mk (below_step bset hb); clear BK220; clear BK221; clear HB; have BK220 := n0_; have BK221 := n1_; have HB := n2_; clear n0_ n1_ n2_; (try clear hb); (try clear hb2); (try clear hk); (try clear hi); have hcz12_0 : w11.cell? ⟨gb220, 0, none⟩ = some (.slice A0_0 l0_0.length c0_0) := (blk_cell BK220.out 0).trans rfl; have hcz12_1 : w11.cell? ⟨gb220, 1, none⟩ = some (.slice A0_1 l0_1.length c0_1) := (blk_cell BK220.out 1).trans rfl; have hfz12_0 := blk_frozen BK220.out 0; have hfz12_1 := blk_frozen BK220.out 1) | ((with_reducible refine gate_callee (f := 18) rfl ?_); refine goesL_ (some 17) rfl rfl Try.func18 (by kernel_rfl) rfl #[.agg #[.slice A0_0 l0_0.length c0_0, .slice A0_1 l0_1.length c0_1]] rfl lm ?_; (with_reducible refine (spec_ShapeOf.calls k _ _ l0_0 _ _ l0_1 t223 t226 t229 _ ?side1 ?side2 ?side3 ?side4 A4.out).mono ?_); (case side1 => exact cb HR0_0.out); (case side2 => exact HC0_0.out); (case side3 => exact cb HR0_1.out); (case side4 => exact HC0_1.out); rintro e w13 ⟨v224, v227, rfl, ho0, ho1, hb⟩; refine ⟨_, rfl, ?_⟩; have n0_ := Aside0.mk (Kd.R_lower ho0 (below_size bset)); have n1_ := Aside0.mk (Kd.R_lower ho1 (below_size bset)); have n2_ := Aside0.mk (blk_below (bk BK220.out) hb); have n3_ := Aside0.mk (blk_below (bk BK221.out) hb); have n4_ := Aside0.mk (below_step bset hb); clear BK220; clear BK221; clear HB; have HO225 := n0_; have HO228 := n1_; have BK220 := n2_; have BK221 := n3_; have HB := n4_; clear n0_ n1_ n2_ n3_ n4_; (try clear hb); (try clear hb2); (try clear hk); (try clear hi); (try clear ho0); (try clear ho1)) | ((with_reducible refine gate_dst (N := 4) rfl ?_); refine box_event ?hg (N := 4) ?hd (cs := #[.slice none 0 0, .slice none 0 0]) (t := 34) ?hr ?_; (case hd => rfl); (case hg => rfl); (case hr => first | (go_simp; done) | (go_simp; rfl)); intro gb230 hg w14 hbox hb; have n0_ := Aside0.mk (Kd.R_below (rk HO225.out) hb); have n1_ := Aside0.mk (Kd.R_below (rk HO228.out) hb); have n2_ := Aside0.mk (blk_below (bk BK220.out) hb); have n3_ := Aside0.mk (blk_below (bk BK221.out) hb); have n4_ := Aside0.mk (below_step bset hb); have n5_ := Aside0.mk (hbox); have n6_ := Aside0.mk ((by rw [hg]; exact (below_size bset) : w.heap.size ≤ gb230)); have n7_ := Aside0.mk ((by rw [hg]; exact (below_size bset) : w.heap.size ≤ gb230)); have n8_ := Aside0.mk ((by rw [hg]; exact Nat.ne_of_lt (blk_lt (g := gb220) (o := .cells #[.slice A0_0 l0_0.length c0_0, .slice A0_1 l0_1.length c0_1] 28 (0, 0)) (bk BK220.out)) : gb220 ≠ gb230)); have n9_ := Aside0.mk ((by rw [hg]; exact Nat.ne_of_gt (blk_lt (g := gb220) (o := .cells #[.slice A0_0 l0_0.length c0_0, .slice A0_1 l0_1.length c0_1] 28 (0, 0)) (bk BK220.out)) : gb230 ≠ gb220)); have n10_ := Aside0.mk ((by rw [hg]; exact Nat.ne_of_lt (blk_lt (g := gb221) (o := .cells #[.slice none 0 0, .slice none 0 0] 28 (0, 0)) (bk BK221.out)) : gb221 ≠ gb230)); have n11_ := Aside0.mk ((by rw [hg]; exact Nat.ne_of_gt (blk_lt (g := gb221) (o := .cells #[.slice none 0 0, .slice none 0 0] 28 (0, 0)) (bk BK221.out)) : gb230 ≠ gb221)); clear HO225; clear HO228; clear BK220; clear BK221; clear HB; have HO225 := n0_; have HO228 := n1_; have BK220 := n2_; have BK221 := n3_; have HB := n4_; have BK230 := n5_; have GW230 := n6_; have GE230 := n7_; have NB220_230 := n8_; have NB230_220 := n9_; have NB221_230 := n10_; have NB230_221 := n11_; clear n0_ n1_ n2_ n3_ n4_ n5_ n6_ n7_ n8_ n9_ n10_ n11_; clear hb hbox hg; obtain ⟨Ao15, co15, eo15⟩ := Kd.R_slice HO225.out; subst eo15; have hnb16 := NB230_220.out; have hnc16 := NB220_230.out; have hnb17 := NB230_221.out; have hnc17 := NB221_230.out; have hcz18_0 : w14.cell? ⟨gb230, 0, none⟩ = some (.slice none 0 0) := (blk_cell BK230.out 0).trans rfl; have hcz18_1 : w14.cell? ⟨gb230, 1, none⟩ = some (.slice none 0 0) := (blk_cell BK230.out 1).trans rfl; have hfz18_0 := blk_frozen BK230.out 0; have hfz18_1 := blk_frozen BK230.out 1; obtain ⟨Ao19, co19, eo19⟩ := Kd.R_slice HO228.out; subst eo19) | ((with_reducible refine gate_callee (f := 66) rfl ?_); refine goesL_ (some 22) rfl rfl Try.func66 (by kernel_rfl) rfl #[.slice Ao19 t226.length co19] rfl lm ?_; (with_reducible refine (spec_l2Turn.calls k _ _ t226 t231 _ ?side1 ?side2 A5.out).mono ?_); (case side1 => refine (Kd.R_reads' (e := 3) (base := w.heap.size) (ok := fun k_ => some k_ ≠ (.slice Ao15 t223.length co15 : Value).ownBlock) (n := t226.length) (c := co19) ?_).2.2; exact (by (with_reducible repeat (first | apply Kd.R_alloc | apply Kd.R_drewN | apply Kd.R_drew)); exact (Kd.R_mono (Kd.R_far (p := ⟨gb230, 1, none⟩) (Kd.R_far (p := ⟨gb230, 0, none⟩) (Kd.R_types HO228.out BK230.out (by decide)) (fun _ hk => hk.2) (.slice Ao15 t223.length co15)) (fun _ hk => hk.2) (.slice Ao19 t226.length co19)) (fun _ h_ => h_.1)))); (case side2 => exact (Kd.R_reads' HO228.out).2.1); rintro e w20 ⟨v232, rfl, ho0, hb⟩; refine ⟨_, rfl, ?_⟩; have n0_ := Aside0.mk (Kd.R_elder' (by (with_reducible repeat (first | apply Kd.R_alloc | apply Kd.R_drewN | apply Kd.R_drew)); exact (Kd.R_mono (Kd.R_far (p := ⟨gb230, 1, none⟩) (Kd.R_far (p := ⟨gb230, 0, none⟩) (Kd.R_types HO225.out BK230.out (by decide)) (fun _ hk => hk.2) (.slice Ao15 t223.length co15)) (fun _ hk => hk.2) (.slice Ao19 t226.length co19)) (fun _ h_ => h_.1))) (Kd.R_base ho0) hb); have n1_ := Aside0.mk (Kd.R_elder' (by (with_reducible repeat (first | apply Kd.R_alloc | apply Kd.R_drewN | apply Kd.R_drew)); exact (Kd.R_mono (Kd.R_far (p := ⟨gb230, 1, none⟩) (Kd.R_far (p := ⟨gb230, 0, none⟩) (Kd.R_types HO228.out BK230.out (by decide)) (fun _ hk => hk.2) (.slice Ao15 t223.length co15)) (fun _ hk => hk.2) (.slice Ao19 t226.length co19)) (fun _ h_ => h_.1))) (Kd.R_base ho0) hb); have n2_ := Aside0.mk (Kd.R_lower (Kd.R_new' (Kd.R_new' ho0 (Kd.R_lt (by (with_reducible repeat (first | apply Kd.R_alloc | apply Kd.R_drewN | apply Kd.R_drew)); exact (Kd.R_mono (Kd.R_far (p := ⟨gb230, 1, none⟩) (Kd.R_far (p := ⟨gb230, 0, none⟩) (Kd.R_types HO225.out BK230.out (by decide)) (fun _ hk => hk.2) (.slice Ao15 t223.length co15)) (fun _ hk => hk.2) (.slice Ao19 t226.length co19)) (fun _ h_ => h_.1))))) (Kd.R_lt (by (with_reducible repeat (first | apply Kd.R_alloc | apply Kd.R_drewN | apply Kd.R_drew)); exact (Kd.R_mono (Kd.R_far (p := ⟨gb230, 1, none⟩) (Kd.R_far (p := ⟨gb230, 0, none⟩) (Kd.R_types HO228.out BK230.out (by decide)) (fun _ hk => hk.2) (.slice Ao15 t223.length co15)) (fun _ hk => hk.2) (.slice Ao19 t226.length co19)) (fun _ h_ => h_.1))))) (below_size bset)); have n3_ := Aside0.mk (blk_below (g := gb220) (o := .cells #[.slice A0_0 l0_0.length c0_0, .slice A0_1 l0_1.length c0_1] 28 (0, 0)) (by (with_reducible repeat (first | refine blk_drewN ?_ _ | refine blk_drew ?_ | refine blk_alloc ?_ _)); refine blk_far ?_ NB220_230.out _; (with_reducible repeat (first | refine blk_drewN ?_ _ | refine blk_drew ?_ | refine blk_alloc ?_ _)); refine blk_far ?_ NB220_230.out _; (with_reducible repeat (first | refine blk_drewN ?_ _ | refine blk_drew ?_ | refine blk_alloc ?_ _)); exact BK220.out) hb); have n4_ := Aside0.mk (blk_below (g := gb221) (o := .cells #[.slice none 0 0, .slice none 0 0] 28 (0, 0)) (by (with_reducible repeat (first | refine blk_drewN ?_ _ | refine blk_drew ?_ | refine blk_alloc ?_ _)); refine blk_far ?_ NB221_230.out _; (with_reducible repeat (first | refine blk_drewN ?_ _ | refine blk_drew ?_ | refine blk_alloc ?_ _)); refine blk_far ?_ NB221_230.out _; (with_reducible repeat (first | refine blk_drewN ?_ _ | refine blk_drew ?_ | refine blk_alloc ?_ _)); exact BK221.out) hb); have n5_ := Aside0.mk (blk_below (g := gb230) (o := .cells #[.slice Ao15 t223.length co15, .slice Ao19 t226.length co19] 34 (0, 0)) (by (with_reducible repeat (first | refine blk_drewN ?_ _ | refine blk_drew ?_ | refine blk_alloc ?_ _)); refine blk_put (cs := #[.slice Ao15 t223.length co15, .slice none 0 0]) ?_ 1 _ rfl; (with_reducible repeat (first | refine blk_drewN ?_ _ | refine blk_drew ?_ | refine blk_alloc ?_ _)); refine blk_put (cs := #[.slice none 0 0, .slice none 0 0]) ?_ 0 _ rfl; (with_reducible repeat (first | refine blk_drewN ?_ _ | refine blk_drew ?_ | refine blk_alloc ?_ _)); exact BK230.out) hb); have n6_ := Aside0.mk (below_step bset hb); clear HO225; clear HO228; clear BK220; clear BK221; clear BK230; clear HB; have HO225 := n0_; have HO228 := n1_; have HO233 := n2_; have BK220 := n3_; have BK221 := n4_; have BK230 := n5_; have HB := n6_; clear n0_ n1_ n2_ n3_ n4_ n5_ n6_; (try clear hb); (try clear hb2); (try clear hk); (try clear hi); (try clear ho0); obtain ⟨Ao21, co21, eo21⟩ := Kd.R_slice HO233.out; subst eo21) | ((with_reducible refine gate_dst (N := 6) rfl ?_); refine box_event ?hg (N := 6) ?hd (cs := #[.slice none 0 0, .slice none 0 0]) (t := 28) ?hr ?_; (case hd => rfl); (case hg => rfl); (case hr => first | (go_simp; done) | (go_simp; rfl)); intro gb234 hg w22 hbox hb; have n0_ := Aside0.mk (Kd.R_below (rk HO225.out) hb); have n1_ := Aside0.mk (Kd.R_below (rk HO228.out) hb); have n2_ := Aside0.mk (Kd.R_below (rk HO233.out) hb); have n3_ := Aside0.mk (blk_below (bk BK220.out) hb); have n4_ := Aside0.mk (blk_below (bk BK221.out) hb); have n5_ := Aside0.mk (blk_below (bk BK230.out) hb); have n6_ := Aside0.mk (below_step bset hb); have n7_ := Aside0.mk (hbox); have n8_ := Aside0.mk ((by rw [hg]; exact (below_size bset) : w.heap.size ≤ gb234)); have n9_ := Aside0.mk ((by rw [hg]; exact (below_size bset) : w.heap.size ≤ gb234)); have n10_ := Aside0.mk ((by rw [hg]; exact Nat.ne_of_lt (blk_lt (g := gb220) (o := .cells #[.slice A0_0 l0_0.length c0_0, .slice A0_1 l0_1.length c0_1] 28 (0, 0)) (bk BK220.out)) : gb220 ≠ gb234)); have n11_ := Aside0.mk ((by rw [hg]; exact Nat.ne_of_gt (blk_lt (g := gb220) (o := .cells #[.slice A0_0 l0_0.length c0_0, .slice A0_1 l0_1.length c0_1] 28 (0, 0)) (bk BK220.out)) : gb234 ≠ gb220)); have n12_ := Aside0.mk ((by rw [hg]; exact Nat.ne_of_lt (blk_lt (g := gb221) (o := .cells #[.slice none 0 0, .slice none 0 0] 28 (0, 0)) (bk BK221.out)) : gb221 ≠ gb234)); have n13_ := Aside0.mk ((by rw [hg]; exact Nat.ne_of_gt (blk_lt (g := gb221) (o := .cells #[.slice none 0 0, .slice none 0 0] 28 (0, 0)) (bk BK221.out)) : gb234 ≠ gb221)); have n14_ := Aside0.mk ((by rw [hg]; exact Nat.ne_of_lt (blk_lt (g := gb230) (o := .cells #[.slice Ao15 t223.length co15, .slice Ao19 t226.length co19] 34 (0, 0)) (bk BK230.out)) : gb230 ≠ gb234)); have n15_ := Aside0.mk ((by rw [hg]; exact Nat.ne_of_gt (blk_lt (g := gb230) (o := .cells #[.slice Ao15 t223.length co15, .slice Ao19 t226.length co19] 34 (0, 0)) (bk BK230.out)) : gb234 ≠ gb230)); clear HO225; clear HO228; clear HO233; clear BK220; clear BK221; clear BK230; clear HB; have HO225 := n0_; have HO228 := n1_; have HO233 := n2_; have BK220 := n3_; have BK221 := n4_; have BK230 := n5_; have HB := n6_; have BK234 := n7_; have GW234 := n8_; have GE234 := n9_; have NB220_234 := n10_; have NB234_220 := n11_; have NB221_234 := n12_; have NB234_221 := n13_; have NB230_234 := n14_; have NB234_230 := n15_; clear n0_ n1_ n2_ n3_ n4_ n5_ n6_ n7_ n8_ n9_ n10_ n11_ n12_ n13_ n14_ n15_; clear hb hbox hg; have hnb23 := NB234_220.out; have hnc23 := NB220_234.out; have hnb24 := NB234_221.out; have hnc24 := NB221_234.out; have hnb25 := NB234_230.out; have hnc25 := NB230_234.out; have hcz26_0 : w22.cell? ⟨gb234, 0, none⟩ = some (.slice none 0 0) := (blk_cell BK234.out 0).trans rfl; have hcz26_1 : w22.cell? ⟨gb234, 1, none⟩ = some (.slice none 0 0) := (blk_cell BK234.out 1).trans rfl; have hfz26_0 := blk_frozen BK234.out 0; have hfz26_1 := blk_frozen BK234.out 1; have hcz27_0 : w22.cell? ⟨gb230, 0, none⟩ = some (.slice Ao15 t223.length co15) := (blk_cell BK230.out 0).trans rfl; have hcz27_1 : w22.cell? ⟨gb230, 1, none⟩ = some (.slice Ao19 t226.length co19) := (blk_cell BK230.out 1).trans rfl; have hfz27_0 := blk_frozen BK230.out 0; have hfz27_1 := blk_frozen BK230.out 1))
  (try simp only [Act.put, List.setIfInBounds_toArray, List.set_cons_zero, List.set_cons_succ])
  go_cut [7] (fun v7 wc => ∃ (kq : Nat) (x7_5 : Int), v7 = .int .i64 x7_5 ∧ Aside0 (spec_TurnTableau.j0 kq x7_5 l0_0 l0_1 t223 t226 t231 = some (r1, r2, r3)) ∧ Aside0 (kq ≤ k) ∧ Aside0 (Kd.R (Kd.int .i64) 3 wc w.heap.size (fun k_ => some k_ ≠ ((.slice Ao19 t226.length co19) : Value).ownBlock ∧ some k_ ≠ ((.slice Ao21 t231.length co21) : Value).ownBlock) (.slice Ao15 t223.length co15) t223) ∧ Aside0 (Kd.R (Kd.int .i64) 3 wc w.heap.size (fun k_ => some k_ ≠ ((.slice Ao15 t223.length co15) : Value).ownBlock ∧ some k_ ≠ ((.slice Ao21 t231.length co21) : Value).ownBlock) (.slice Ao19 t226.length co19) t226) ∧ Aside0 (Kd.R (Kd.int .i64) 3 wc w.heap.size (fun k_ => some k_ ≠ ((.slice Ao15 t223.length co15) : Value).ownBlock ∧ some k_ ≠ ((.slice Ao19 t226.length co19) : Value).ownBlock) (.slice Ao21 t231.length co21) t231) ∧ Aside0 (wc.heap[gb220]? = some (.cells #[(.slice A0_0 l0_0.length c0_0), (.slice A0_1 l0_1.length c0_1)] 28 (0, 0))) ∧ Aside0 (wc.heap[gb221]? = some (.cells #[(.slice none 0 0), (.slice none 0 0)] 28 (0, 0))) ∧ Aside0 (wc.heap[gb230]? = some (.cells #[(.slice Ao15 t223.length co15), (.slice Ao19 t226.length co19)] 34 (0, 0))) ∧ Aside0 (wc.heap[gb234]? = some (.cells #[(.slice Ao21 t231.length co21), (.slice none 0 0)] 28 (0, 0))) ∧ Aside0 (Below w.heap.size w wc))
  case first =>
   have H := HC6.out
   clear HC6
   by_cases c28 : (t223.length : Int) > 0
   ·rw [if_pos c28] at H
    have c28b0 : decide (0 < (t223.length : Int)) = true := decide_eq_true c28
    have c28b1 : decide (0 < t223.length) = true := decide_eq_true (by omega)
    clear c28
    (first | rw [c28b0] | rw [c28b1] | (simp only [i64_w, i32_w]; rw [c28b0]) | skip)
    by_cases c29 : 0 < (t223.length : Int)
    ·rw [if_pos c29] at H
     have c29b0 : decide (0 < (t223.length : Int)) = true := decide_eq_true c29
     have c29b1 : decide (0 < t223.length) = true := decide_eq_true (by omega)
     clear c29
     have H' := Aside0.mk H
     clear H
     have hnb30 := NB230_220.out
     have hnc30 := NB220_230.out
     have hnb31 := NB230_221.out
     have hnc31 := NB221_230.out
     have hnb32 := NB230_234.out
     have hnc32 := NB234_230.out
     have hcz33_0 : w22.cell? ⟨gb230, 0, none⟩ = some (.slice Ao15 t223.length co15) := (blk_cell BK230.out 0).trans rfl
     have hcz33_1 : w22.cell? ⟨gb230, 1, none⟩ = some (.slice Ao19 t226.length co19) := (blk_cell BK230.out 1).trans rfl
     have hfz33_0 := blk_frozen BK230.out 0
     have hfz33_1 := blk_frozen BK230.out 1
     have p235 : 0 ≤ (0 : Int) := (by omega)
     have q235 : 0 < (t223.length : Int) := of_decide_eq_true (by first | (with_reducible assumption) | assumption)
     obtain ⟨ad235, e235, hx235_0⟩ := Kd.at_int (Kd.R_reads' HO225.out).2.2 0 p235 q235
     cases e235
     have qi235 : (0 < t223.length) = True := eq_true (by omega)
     (try rw [show ((0 : Int)).toNat = 0 from rfl] at hx235_0)
     (try rw [Addr.add_zero'] at hx235_0)
     have hn235_0 : ad235.block ≠ gb234 := Kd.own_blk (Kd.R_ne HO225.out BK234.out (by decide))
     have hn235_1 : ad235.block ≠ gb234 := Kd.own_blk (Kd.R_ne HO225.out BK234.out (by decide))
     replace hx235_0 := (cell_far (p := ⟨gb234, 0, none⟩) (by first | (rw [add_block]; exact hn235_0) | (show (Addr.add _ _).block ≠ _; rw [add_block]; exact hn235_0) | exact hn235_0) (.slice Ao21 t231.length co21)).trans hx235_0
     replace hx235_0 := (cell_far (p := ⟨gb234, 1, none⟩) (by first | (rw [add_block]; exact hn235_1) | (show (Addr.add _ _).block ≠ _; rw [add_block]; exact hn235_1) | exact hn235_1) (.slice none 0 0)).trans hx235_0
     clear hn235_0
     clear hn235_1
     replace p235 := eq_true p235
     replace q235 := eq_true q235
     go_wp2
     go_meet
     case rel => exact ⟨_, (rd t223 0), (by first | rfl | (simp; done) | (simp [*]; done)), H', ⟨by first | omega | exact Nat.le_refl _⟩, ⟨by (with_reducible repeat (first | apply Kd.R_alloc | apply Kd.R_drewN | apply Kd.R_drew)); exact Kd.R_mono (Kd.R_far (p := ⟨gb234, 1, none⟩) (Kd.R_far (p := ⟨gb234, 0, none⟩) (Kd.R_types HO225.out BK234.out (by decide)) (fun _ hk => hk.2) (.slice Ao21 t231.length co21)) (fun _ hk => hk.2) (.slice none 0 0)) (fun _ hk => ⟨hk.1.1, hk.1.2⟩)⟩, ⟨by (with_reducible repeat (first | apply Kd.R_alloc | apply Kd.R_drewN | apply Kd.R_drew)); exact Kd.R_mono (Kd.R_far (p := ⟨gb234, 1, none⟩) (Kd.R_far (p := ⟨gb234, 0, none⟩) (Kd.R_types HO228.out BK234.out (by decide)) (fun _ hk => hk.2) (.slice Ao21 t231.length co21)) (fun _ hk => hk.2) (.slice none 0 0)) (fun _ hk => ⟨hk.1.1, hk.1.2⟩)⟩, ⟨by (with_reducible repeat (first | apply Kd.R_alloc | apply Kd.R_drewN | apply Kd.R_drew)); exact Kd.R_mono (Kd.R_far (p := ⟨gb234, 1, none⟩) (Kd.R_far (p := ⟨gb234, 0, none⟩) (Kd.R_types HO233.out BK234.out (by decide)) (fun _ hk => hk.2) (.slice Ao21 t231.length co21)) (fun _ hk => hk.2) (.slice none 0 0)) (fun _ hk => ⟨hk.1.1.2, hk.1.2⟩)⟩, ⟨by (with_reducible repeat (first | refine blk_drewN ?_ _ | refine blk_drew ?_ | refine blk_alloc ?_ _)); refine blk_far ?_ NB220_234.out _; (with_reducible repeat (first | refine blk_drewN ?_ _ | refine blk_drew ?_ | refine blk_alloc ?_ _)); refine blk_far ?_ NB220_234.out _; (with_reducible repeat (first | refine blk_drewN ?_ _ | refine blk_drew ?_ | refine blk_alloc ?_ _)); exact BK220.out⟩, ⟨by (with_reducible repeat (first | refine blk_drewN ?_ _ | refine blk_drew ?_ | refine blk_alloc ?_ _)); refine blk_far ?_ NB221_234.out _; (with_reducible repeat (first | refine blk_drewN ?_ _ | refine blk_drew ?_ | refine blk_alloc ?_ _)); refine blk_far ?_ NB221_234.out _; (with_reducible repeat (first | refine blk_drewN ?_ _ | refine blk_drew ?_ | refine blk_alloc ?_ _)); exact BK221.out⟩, ⟨by (with_reducible repeat (first | refine blk_drewN ?_ _ | refine blk_drew ?_ | refine blk_alloc ?_ _)); refine blk_far ?_ NB230_234.out _; (with_reducible repeat (first | refine blk_drewN ?_ _ | refine blk_drew ?_ | refine blk_alloc ?_ _)); refine blk_far ?_ NB230_234.out _; (with_reducible repeat (first | refine blk_drewN ?_ _ | refine blk_drew ?_ | refine blk_alloc ?_ _)); exact BK230.out⟩, ⟨by (with_reducible repeat (first | refine blk_drewN ?_ _ | refine blk_drew ?_ | refine blk_alloc ?_ _)); refine blk_put (cs := #[.slice Ao21 t231.length co21, .slice none 0 0]) ?_ 1 _ rfl; (with_reducible repeat (first | refine blk_drewN ?_ _ | refine blk_drew ?_ | refine blk_alloc ?_ _)); refine blk_put (cs := #[.slice none 0 0, .slice none 0 0]) ?_ 0 _ rfl; (with_reducible repeat (first | refine blk_drewN ?_ _ | refine blk_drew ?_ | refine blk_alloc ?_ _)); exact BK234.out⟩, ⟨by repeat (first | (with_reducible first | exact HB.out | apply below_alloc | apply pw_below_drewN | apply below_drew1 | refine below_set ?_ GE220.out | refine below_set ?_ GE221.out | refine below_set ?_ GE230.out | refine below_set ?_ GE234.out) | exact HB.out)⟩⟩
    ·rw [if_neg c29] at H
     exact absurd H (by simp)
   ·rw [if_neg c28] at H
    have c28b0 : decide (0 < (t223.length : Int)) = false := decide_eq_false c28
    have c28b1 : decide (0 < t223.length) = false := decide_eq_false (by omega)
    clear c28
    (first | rw [c28b0] | rw [c28b1] | (simp only [i64_w, i32_w]; rw [c28b0]) | skip)
    have H' := Aside0.mk H
    clear H
    go_wp2
    go_meet
    case rel => exact ⟨_, (0), (by first | rfl | (simp; done) | (simp [*]; done)), H', ⟨by first | omega | exact Nat.le_refl _⟩, ⟨by (with_reducible repeat (first | apply Kd.R_alloc | apply Kd.R_drewN | apply Kd.R_drew)); exact Kd.R_mono (Kd.R_far (p := ⟨gb234, 1, none⟩) (Kd.R_far (p := ⟨gb234, 0, none⟩) (Kd.R_types HO225.out BK234.out (by decide)) (fun _ hk => hk.2) (.slice Ao21 t231.length co21)) (fun _ hk => hk.2) (.slice none 0 0)) (fun _ hk => ⟨hk.1.1, hk.1.2⟩)⟩, ⟨by (with_reducible repeat (first | apply Kd.R_alloc | apply Kd.R_drewN | apply Kd.R_drew)); exact Kd.R_mono (Kd.R_far (p := ⟨gb234, 1, none⟩) (Kd.R_far (p := ⟨gb234, 0, none⟩) (Kd.R_types HO228.out BK234.out (by decide)) (fun _ hk => hk.2) (.slice Ao21 t231.length co21)) (fun _ hk => hk.2) (.slice none 0 0)) (fun _ hk => ⟨hk.1.1, hk.1.2⟩)⟩, ⟨by (with_reducible repeat (first | apply Kd.R_alloc | apply Kd.R_drewN | apply Kd.R_drew)); exact Kd.R_mono (Kd.R_far (p := ⟨gb234, 1, none⟩) (Kd.R_far (p := ⟨gb234, 0, none⟩) (Kd.R_types HO233.out BK234.out (by decide)) (fun _ hk => hk.2) (.slice Ao21 t231.length co21)) (fun _ hk => hk.2) (.slice none 0 0)) (fun _ hk => ⟨hk.1.1.2, hk.1.2⟩)⟩, ⟨by (with_reducible repeat (first | refine blk_drewN ?_ _ | refine blk_drew ?_ | refine blk_alloc ?_ _)); refine blk_far ?_ NB220_234.out _; (with_reducible repeat (first | refine blk_drewN ?_ _ | refine blk_drew ?_ | refine blk_alloc ?_ _)); refine blk_far ?_ NB220_234.out _; (with_reducible repeat (first | refine blk_drewN ?_ _ | refine blk_drew ?_ | refine blk_alloc ?_ _)); exact BK220.out⟩, ⟨by (with_reducible repeat (first | refine blk_drewN ?_ _ | refine blk_drew ?_ | refine blk_alloc ?_ _)); refine blk_far ?_ NB221_234.out _; (with_reducible repeat (first | refine blk_drewN ?_ _ | refine blk_drew ?_ | refine blk_alloc ?_ _)); refine blk_far ?_ NB221_234.out _; (with_reducible repeat (first | refine blk_drewN ?_ _ | refine blk_drew ?_ | refine blk_alloc ?_ _)); exact BK221.out⟩, ⟨by (with_reducible repeat (first | refine blk_drewN ?_ _ | refine blk_drew ?_ | refine blk_alloc ?_ _)); refine blk_far ?_ NB230_234.out _; (with_reducible repeat (first | refine blk_drewN ?_ _ | refine blk_drew ?_ | refine blk_alloc ?_ _)); refine blk_far ?_ NB230_234.out _; (with_reducible repeat (first | refine blk_drewN ?_ _ | refine blk_drew ?_ | refine blk_alloc ?_ _)); exact BK230.out⟩, ⟨by (with_reducible repeat (first | refine blk_drewN ?_ _ | refine blk_drew ?_ | refine blk_alloc ?_ _)); refine blk_put (cs := #[.slice Ao21 t231.length co21, .slice none 0 0]) ?_ 1 _ rfl; (with_reducible repeat (first | refine blk_drewN ?_ _ | refine blk_drew ?_ | refine blk_alloc ?_ _)); refine blk_put (cs := #[.slice none 0 0, .slice none 0 0]) ?_ 0 _ rfl; (with_reducible repeat (first | refine blk_drewN ?_ _ | refine blk_drew ?_ | refine blk_alloc ?_ _)); exact BK234.out⟩, ⟨by repeat (first | (with_reducible first | exact HB.out | apply below_alloc | apply pw_below_drewN | apply below_drew1 | refine below_set ?_ GE220.out | refine below_set ?_ GE221.out | refine below_set ?_ GE230.out | refine below_set ?_ GE234.out) | exact HB.out)⟩⟩
  case rest =>
   clear HC6
   try clear c1
   try clear c2
   try clear p2
   try clear q2
   try clear hx2
   try clear qi2
   try clear c3
   try clear c6
   try clear c9
   try clear c16
   try clear c17
   try clear c18
   try clear c23
   try clear p23
   try clear q23
   try clear hx23
   try clear qi23
   try clear c24
   try clear c25
   try clear c26
   try clear c28
   try clear c28b0
   try clear c28b1
   try clear c29
   try clear c29b0
   try clear c29b1
   try clear c30
   try clear c31
   try clear c32
   try clear hcz10_0
   try clear hcz10_1
   try clear hcz12_0
   try clear hcz12_1
   try clear hcz18_0
   try clear hcz18_1
   try clear hcz26_0
   try clear hcz26_1
   try clear hcz27_0
   try clear hcz27_1
   try clear hcz33_0
   try clear hcz33_1
   try clear hfz10_0
   try clear hfz10_1
   try clear hfz12_0
   try clear hfz12_1
   try clear hfz18_0
   try clear hfz18_1
   try clear hfz26_0
   try clear hfz26_1
   try clear hfz27_0
   try clear hfz27_1
   try clear hfz33_0
   try clear hfz33_1
   try clear hx235_0
   try clear p235
   try clear q235
   obtain ⟨kq, x7_5, rfl, HA, HJ5, HO_231000, HO_231001, HO_235000, BK220, BK221, BK230, BK234, HB⟩ := hcut
   cases kq with
   | zero => exact absurd HA.out (by simp [spec_TurnTableau.j0])
   | succ kj5 =>
    have H := HA.out
    clear HA
    simp only [spec_TurnTableau.j0] at H
    have H' := Aside0.mk H
    clear H
    go_wp2
    go_loopg [8] kj5 (fun kq v8 w' => ∃ (x8_2 : Int) (x235001_2 : List (List Int)) (u235001 : Value), v8 = .int .i64 x8_2 ∧ Aside0 (spec_TurnTableau.l0 kq x7_5 x8_2 l0_0 l0_1 t223 t226 t231 x235001_2 = some (r1, r2, r3)) ∧ Aside0 (kq ≤ kj5) ∧ Aside0 (Kd.R (Kd.int .i64) 3 w' w.heap.size (fun k_ => some k_ ≠ ((.slice Ao19 t226.length co19) : Value).ownBlock ∧ some k_ ≠ ((.slice Ao21 t231.length co21) : Value).ownBlock) (.slice Ao15 t223.length co15) t223) ∧ Aside0 (Kd.R (Kd.int .i64) 3 w' w.heap.size (fun k_ => some k_ ≠ ((.slice Ao15 t223.length co15) : Value).ownBlock ∧ some k_ ≠ ((.slice Ao21 t231.length co21) : Value).ownBlock) (.slice Ao19 t226.length co19) t226) ∧ Aside0 (Kd.R (Kd.int .i64) 3 w' w.heap.size (fun k_ => some k_ ≠ ((.slice Ao15 t223.length co15) : Value).ownBlock ∧ some k_ ≠ ((.slice Ao19 t226.length co19) : Value).ownBlock) (.slice Ao21 t231.length co21) t231) ∧ Aside0 (Kd.S (Kd.slice 3 (Kd.int .i64)) 22 w' w.heap.size (fun k_ => some k_ ≠ ((.slice Ao15 t223.length co15) : Value).ownBlock ∧ some k_ ≠ ((.slice Ao19 t226.length co19) : Value).ownBlock ∧ some k_ ≠ ((.slice Ao21 t231.length co21) : Value).ownBlock) u235001 x235001_2) ∧ Aside0 (w'.heap[gb220]? = some (.cells #[(.slice A0_0 l0_0.length c0_0), (.slice A0_1 l0_1.length c0_1)] 28 (0, 0))) ∧ Aside0 (w'.heap[gb221]? = some (.cells #[(.slice none 0 0), (.slice none 0 0)] 28 (0, 0))) ∧ Aside0 (w'.heap[gb230]? = some (.cells #[(.slice Ao15 t223.length co15), (.slice Ao19 t226.length co19)] 34 (0, 0))) ∧ Aside0 (w'.heap[gb234]? = some (.cells #[(.slice Ao21 t231.length co21), u235001] 28 (0, 0))) ∧ Aside0 (Below w.heap.size w w'))
    case atStart => exact ⟨(0), (([] : List (List Int))), (.slice none 0 0), (by first | rfl | (simp; done) | (simp [*]; done)), H', ⟨Nat.le_refl _⟩, ⟨rk HO_231000.out⟩, ⟨rk HO_231001.out⟩, ⟨rk HO_235000.out⟩, ⟨by first | exact Kd.S_nil _ _ _ _ _ | exact Kd.N_nil _ _ _ _ _ | exact Kd.V_nil _ _ _ _ _ | exact Kd.Q_nil _ _ _ _ _ | exact Kd.R_nil _ _ _ _ _⟩, ⟨bk BK220.out⟩, ⟨bk BK221.out⟩, ⟨bk BK230.out⟩, ⟨bk BK234.out⟩, ⟨by repeat (first | (with_reducible first | exact HB.out | apply below_alloc | apply pw_below_drewN | apply below_drew1 | refine below_set ?_ GE220.out | refine below_set ?_ GE221.out | refine below_set ?_ GE230.out | refine below_set ?_ GE234.out) | exact HB.out)⟩⟩
    case round =>
     clear H'
     try clear c1
     try clear c2
     try clear p2
     try clear q2
     try clear hx2
     try clear qi2
     try clear c3
     try clear c6
     try clear c9
     try clear c16
     try clear c17
     try clear c18
     try clear c23
     try clear p23
     try clear q23
     try clear hx23
     try clear qi23
     try clear c24
     try clear c25
     try clear c26
     try clear c28
     try clear c28b0
     try clear c28b1
     try clear c29
     try clear c29b0
     try clear c29b1
     try clear c30
     try clear c31
     try clear c32
     try clear hcz10_0
     try clear hcz10_1
     try clear hcz12_0
     try clear hcz12_1
     try clear hcz18_0
     try clear hcz18_1
     try clear hcz26_0
     try clear hcz26_1
     try clear hcz27_0
     try clear hcz27_1
     try clear hcz33_0
     try clear hcz33_1
     try clear hfz10_0
     try clear hfz10_1
     try clear hfz12_0
     try clear hfz12_1
     try clear hfz18_0
     try clear hfz18_1
     try clear hfz26_0
     try clear hfz26_1
     try clear hfz27_0
     try clear hfz27_1
     try clear hfz33_0
     try clear hfz33_1
     try clear hx235_0
     try clear p2
     try clear p23
     try clear p235
     try clear q2
     try clear q23
     try clear q235
     obtain ⟨x8_2, x235001_2, u235001, rfl, HA, HK2, HO_231000, HO_231001, HO_235000, HO_235001, BK220, BK221, BK230, BK234, HB⟩ := hrel
     cases gk with
     | zero => exact absurd HA.out (by simp [spec_TurnTableau.l0])
     | succ k2 =>
      have H := HA.out
      clear HA
      simp only [spec_TurnTableau.l0] at H
      by_cases c34 : x8_2 < x7_5
      ·rw [if_pos c34] at H
       have c34b0 : decide (x8_2 < x7_5) = true := decide_eq_true c34
       clear c34
       obtain ⟨y236, hy236⟩ : ∃ y_ : List Int, y_ = (([] : List Int)) := ⟨_, rfl⟩
       replace H : (spec_TurnTableau.l1 k2 x7_5 x8_2 y236 0 l0_0 l0_1 t223 t226 t231 x235001_2) = some (r1, r2, r3) := by first | (rw [hy236]; with_reducible exact H) | (have H2_ := (Option.bind_some _ _).symm.trans H; rw [hy236]; with_reducible exact H2_) | (have H2_ := (Option.bind_some _ _).symm.trans H; with_reducible exact H2_) | with_reducible exact H | (rw [hy236]; exact H) | exact H
       have Ny236 := Aside0.mk hy236
       clear hy236
       have H' := Aside0.mk H
       clear H
       go_wp2_with (first | ((with_reducible refine gate_dst (N := 37) rfl ?_); refine Kd.R_lit (Kd.int .i64) _ 3 ?hg (N := 37) ?hd (xs := ([] : List Int)) (inner := []) (ok := fun _ => True) (okp := fun _ => True) ?hr ?hp (fun _ hk => hk) trivial (Below.refl _ _) (Nat.le_refl _) (by simp) ?_; (case hd => rfl); (case hg => rfl); (case hr => first | (go_simp; done) | (go_simp; rfl)); (case hp => exact (Reps.none _ _)); intro v237 w35 ho36 hb hg_ hnew_; clear hg_ hnew_; (first | rw [← Ny236.out] at ho36 | (simp only [Int.reduceToNat] at ho36; rw [← Ny236.out] at ho36)); have n0_ := Aside0.mk (Kd.R_elder' (rk HO_231000.out) (Kd.R_base ho36) hb); have n1_ := Aside0.mk (Kd.R_elder' (rk HO_231001.out) (Kd.R_base ho36) hb); have n2_ := Aside0.mk (Kd.R_elder' (rk HO_235000.out) (Kd.R_base ho36) hb); have n3_ := Aside0.mk (Kd.S_elder' (by (with_reducible repeat (first | apply Kd.S_alloc | apply Kd.S_drewN | apply Kd.S_drew)); exact HO_235001.out) (Kd.R_base ho36) hb); have n4_ := Aside0.mk (Kd.R_lower (Kd.R_new' (Kd.R_new' (Kd.R_new' ho36 (Kd.R_lt (rk HO_231000.out))) (Kd.R_lt (rk HO_231001.out))) (Kd.R_lt (rk HO_235000.out))) (below_size bset)); have n5_ := Aside0.mk (blk_below (bk BK220.out) hb); have n6_ := Aside0.mk (blk_below (bk BK221.out) hb); have n7_ := Aside0.mk (blk_below (bk BK230.out) hb); have n8_ := Aside0.mk (blk_below (bk BK234.out) hb); have n9_ := Aside0.mk (below_step bset hb); clear HO_231000; clear HO_231001; clear HO_235000; clear HO_235001; clear BK220; clear BK221; clear BK230; clear BK234; clear HB; have HO_231000 := n0_; have HO_231001 := n1_; have HO_235000 := n2_; have HO_235001 := n3_; have HO238 := n4_; have BK220 := n5_; have BK221 := n6_; have BK230 := n7_; have BK234 := n8_; have HB := n9_; clear n0_ n1_ n2_ n3_ n4_ n5_ n6_ n7_ n8_ n9_; clear hb ho36))
       go_loopg [9, 10] k2 (fun kq v9 v10 w' => ∃ (x9_3 : List Int) (x10_3 : Int), v10 = .int .i64 x10_3 ∧ Aside0 (spec_TurnTableau.l1 kq x7_5 x8_2 x9_3 x10_3 l0_0 l0_1 t223 t226 t231 x235001_2 = some (r1, r2, r3)) ∧ Aside0 (kq ≤ k2) ∧ Aside0 (Kd.R (Kd.int .i64) 3 w' w.heap.size (fun k_ => some k_ ≠ ((.slice Ao15 t223.length co15) : Value).ownBlock ∧ some k_ ≠ ((.slice Ao19 t226.length co19) : Value).ownBlock ∧ some k_ ≠ ((.slice Ao21 t231.length co21) : Value).ownBlock) v9 x9_3) ∧ Aside0 (Kd.R (Kd.int .i64) 3 w' w.heap.size (fun k_ => some k_ ≠ (v9 : Value).ownBlock ∧ some k_ ≠ ((.slice Ao19 t226.length co19) : Value).ownBlock ∧ some k_ ≠ ((.slice Ao21 t231.length co21) : Value).ownBlock) (.slice Ao15 t223.length co15) t223) ∧ Aside0 (Kd.R (Kd.int .i64) 3 w' w.heap.size (fun k_ => some k_ ≠ (v9 : Value).ownBlock ∧ some k_ ≠ ((.slice Ao15 t223.length co15) : Value).ownBlock ∧ some k_ ≠ ((.slice Ao21 t231.length co21) : Value).ownBlock) (.slice Ao19 t226.length co19) t226) ∧ Aside0 (Kd.R (Kd.int .i64) 3 w' w.heap.size (fun k_ => some k_ ≠ (v9 : Value).ownBlock ∧ some k_ ≠ ((.slice Ao15 t223.length co15) : Value).ownBlock ∧ some k_ ≠ ((.slice Ao19 t226.length co19) : Value).ownBlock) (.slice Ao21 t231.length co21) t231) ∧ Aside0 (Kd.S (Kd.slice 3 (Kd.int .i64)) 22 w' w.heap.size (fun k_ => some k_ ≠ (v9 : Value).ownBlock ∧ some k_ ≠ ((.slice Ao15 t223.length co15) : Value).ownBlock ∧ some k_ ≠ ((.slice Ao19 t226.length co19) : Value).ownBlock ∧ some k_ ≠ ((.slice Ao21 t231.length co21) : Value).ownBlock) u235001 x235001_2) ∧ Aside0 (w'.heap[gb220]? = some (.cells #[(.slice A0_0 l0_0.length c0_0), (.slice A0_1 l0_1.length c0_1)] 28 (0, 0))) ∧ Aside0 (w'.heap[gb221]? = some (.cells #[(.slice none 0 0), (.slice none 0 0)] 28 (0, 0))) ∧ Aside0 (w'.heap[gb230]? = some (.cells #[(.slice Ao15 t223.length co15), (.slice Ao19 t226.length co19)] 34 (0, 0))) ∧ Aside0 (w'.heap[gb234]? = some (.cells #[(.slice Ao21 t231.length co21), u235001] 28 (0, 0))) ∧ Aside0 (Below w.heap.size w w'))
       case atStart => exact ⟨(y236), (0), (by first | rfl | (simp; done) | (simp [*]; done)), H', ⟨Nat.le_refl _⟩, ⟨by (with_reducible repeat (first | apply Kd.R_alloc | apply Kd.R_drewN | apply Kd.R_drew)); exact Kd.R_mono HO238.out (fun _ hk => ⟨hk.1.1.2, ⟨hk.1.2, hk.2⟩⟩)⟩, ⟨by (with_reducible repeat (first | apply Kd.R_alloc | apply Kd.R_drewN | apply Kd.R_drew)); exact Kd.R_mono HO_231000.out (fun _ hk => ⟨hk.2, ⟨hk.1.1, hk.1.2⟩⟩)⟩, ⟨by (with_reducible repeat (first | apply Kd.R_alloc | apply Kd.R_drewN | apply Kd.R_drew)); exact Kd.R_mono HO_231001.out (fun _ hk => ⟨hk.2, ⟨hk.1.1, hk.1.2⟩⟩)⟩, ⟨by (with_reducible repeat (first | apply Kd.R_alloc | apply Kd.R_drewN | apply Kd.R_drew)); exact Kd.R_mono HO_235000.out (fun _ hk => ⟨hk.2, ⟨hk.1.1, hk.1.2⟩⟩)⟩, ⟨by (with_reducible repeat (first | apply Kd.S_alloc | apply Kd.S_drewN | apply Kd.S_drew)); exact Kd.S_mono HO_235001.out (fun _ hk => ⟨hk.2, ⟨hk.1.1, ⟨hk.1.2.1, hk.1.2.2⟩⟩⟩)⟩, ⟨bk BK220.out⟩, ⟨bk BK221.out⟩, ⟨bk BK230.out⟩, ⟨bk BK234.out⟩, ⟨by repeat (first | (with_reducible first | exact HB.out | apply below_alloc | apply pw_below_drewN | apply below_drew1 | refine below_set ?_ GE220.out | refine below_set ?_ GE221.out | refine below_set ?_ GE230.out | refine below_set ?_ GE234.out) | exact HB.out)⟩⟩
       case round =>
        clear H'
        try clear c1
        try clear c2
        try clear p2
        try clear q2
        try clear hx2
        try clear qi2
        try clear c3
        try clear c6
        try clear c9
        try clear c16
        try clear c17
        try clear c18
        try clear c23
        try clear p23
        try clear q23
        try clear hx23
        try clear qi23
        try clear c24
        try clear c25
        try clear c26
        try clear c28
        try clear c28b0
        try clear c28b1
        try clear c29
        try clear c29b0
        try clear c29b1
        try clear c30
        try clear c31
        try clear c32
        try clear c34
        try clear c34b0
        try clear c35
        try clear hcz10_0
        try clear hcz10_1
        try clear hcz12_0
        try clear hcz12_1
        try clear hcz18_0
        try clear hcz18_1
        try clear hcz26_0
        try clear hcz26_1
        try clear hcz27_0
        try clear hcz27_1
        try clear hcz33_0
        try clear hcz33_1
        try clear hfz10_0
        try clear hfz10_1
        try clear hfz12_0
        try clear hfz12_1
        try clear hfz18_0
        try clear hfz18_1
        try clear hfz26_0
        try clear hfz26_1
        try clear hfz27_0
        try clear hfz27_1
        try clear hfz33_0
        try clear hfz33_1
        try clear hx235_0
        try clear p2
        try clear p23
        try clear p235
        try clear q2
        try clear q23
        try clear q235
        obtain ⟨x9_3, x10_3, rfl, HA, HK3, HO_9, HO_231000, HO_231001, HO_235000, HO_235001, BK220, BK221, BK230, BK234, HB⟩ := hrel
        cases gk with
        | zero => exact absurd HA.out (by simp [spec_TurnTableau.l1])
        | succ k3 =>
         have H := HA.out
         clear HA
         simp only [spec_TurnTableau.l1] at H
         by_cases c37 : x10_3 < (t223.length : Int)
         ·rw [if_pos c37] at H
          have c37b0 : decide (x10_3 < (t223.length : Int)) = true := decide_eq_true c37
          clear c37
          replace H := Option.bind_eq_some_iff.mp H
          obtain ⟨t242, A380, H⟩ := H
          replace H : (if t242 > 0 then ((spec_l5Entry.f k3 l0_0 l0_1 x10_3 x8_2).bind fun t243 => (if x9_3.length < 17592186044416 then (spec_TurnTableau.l1 k3 x7_5 x8_2 (x9_3 ++ [t243]) (wrap64 (x10_3 + 1)) l0_0 l0_1 t223 t226 t231 x235001_2) else (none))) else (spec_TurnTableau.l1 k3 x7_5 x8_2 x9_3 (wrap64 (x10_3 + 1)) l0_0 l0_1 t223 t226 t231 x235001_2)) = some (r1, r2, r3) := H
          have A38 := Aside0.mk A380
          clear A380
          by_cases c39 : t242 > 0
          ·rw [if_pos c39] at H
           have c39b0 : decide (0 < t242) = true := decide_eq_true c39
           clear c39
           replace H := Option.bind_eq_some_iff.mp H
           obtain ⟨t243, A400, H⟩ := H
           replace H : (if x9_3.length < 17592186044416 then (spec_TurnTableau.l1 k3 x7_5 x8_2 (x9_3 ++ [t243]) (wrap64 (x10_3 + 1)) l0_0 l0_1 t223 t226 t231 x235001_2) else (none)) = some (r1, r2, r3) := H
           have A40 := Aside0.mk A400
           clear A400
           by_cases c41 : x9_3.length < 17592186044416
           ·rw [if_pos c41] at H
            have LMc41 := Aside0.mk c41
            clear c41
            obtain ⟨y244, hy244⟩ : ∃ y_ : List Int, y_ = (x9_3 ++ [t243]) := ⟨_, rfl⟩
            replace H : (spec_TurnTableau.l1 k3 x7_5 x8_2 y244 (wrap64 (x10_3 + 1)) l0_0 l0_1 t223 t226 t231 x235001_2) = some (r1, r2, r3) := by first | (rw [hy244]; with_reducible exact H) | (have H2_ := (Option.bind_some _ _).symm.trans H; rw [hy244]; with_reducible exact H2_) | (have H2_ := (Option.bind_some _ _).symm.trans H; with_reducible exact H2_) | with_reducible exact H | (rw [hy244]; exact H) | exact H
            have Ny244 := Aside0.mk hy244
            clear hy244
            have H' := Aside0.mk H
            clear H
            have hnb42 := NB230_220.out
            have hnc42 := NB220_230.out
            have hnb43 := NB230_221.out
            have hnc43 := NB221_230.out
            have hnb44 := NB230_234.out
            have hnc44 := NB234_230.out
            have hcz45_0 : wr.cell? ⟨gb230, 0, none⟩ = some (.slice Ao15 t223.length co15) := (blk_cell BK230.out 0).trans rfl
            have hcz45_1 : wr.cell? ⟨gb230, 1, none⟩ = some (.slice Ao19 t226.length co19) := (blk_cell BK230.out 1).trans rfl
            have hfz45_0 := blk_frozen BK230.out 0
            have hfz45_1 := blk_frozen BK230.out 1
            have hnb46 := NB220_221.out
            have hnc46 := NB221_220.out
            have hnb47 := NB220_234.out
            have hnc47 := NB234_220.out
            have hcz48_0 : wr.cell? ⟨gb220, 0, none⟩ = some (.slice A0_0 l0_0.length c0_0) := (blk_cell BK220.out 0).trans rfl
            have hcz48_1 : wr.cell? ⟨gb220, 1, none⟩ = some (.slice A0_1 l0_1.length c0_1) := (blk_cell BK220.out 1).trans rfl
            have hfz48_0 := blk_frozen BK220.out 0
            have hfz48_1 := blk_frozen BK220.out 1
            go_wp2_with (first | ((with_reducible refine gate_callee (f := 47) rfl ?_); refine goesL_ (some 48) rfl rfl Try.func47 (by kernel_rfl) rfl #[.agg #[.slice A0_0 l0_0.length c0_0, .slice A0_1 l0_1.length c0_1], .int .i64 x10_3, .int .i64 x8_2] rfl lm ?_; (with_reducible refine (spec_l5Entry.calls k3 _ _ l0_0 _ _ l0_1 x10_3 x8_2 t242 _ ?side1 ?side2 ?side3 ?side4 A38.out).mono ?_); (case side1 => exact cb HR0_0.out); (case side2 => exact HC0_0.out); (case side3 => exact cb HR0_1.out); (case side4 => exact HC0_1.out); rintro e w49 ⟨rfl, hb⟩; refine ⟨_, rfl, ?_⟩; have n0_ := Aside0.mk (Kd.R_below (rk HO_9.out) hb); have n1_ := Aside0.mk (Kd.R_below (rk HO_231000.out) hb); have n2_ := Aside0.mk (Kd.R_below (rk HO_231001.out) hb); have n3_ := Aside0.mk (Kd.R_below (rk HO_235000.out) hb); have n4_ := Aside0.mk (Kd.S_below (by (with_reducible repeat (first | apply Kd.S_alloc | apply Kd.S_drewN | apply Kd.S_drew)); exact HO_235001.out) hb); have n5_ := Aside0.mk (blk_below (bk BK220.out) hb); have n6_ := Aside0.mk (blk_below (bk BK221.out) hb); have n7_ := Aside0.mk (blk_below (bk BK230.out) hb); have n8_ := Aside0.mk (blk_below (bk BK234.out) hb); have n9_ := Aside0.mk (below_step bset hb); clear HO_9; clear HO_231000; clear HO_231001; clear HO_235000; clear HO_235001; clear BK220; clear BK221; clear BK230; clear BK234; clear HB; have HO_9 := n0_; have HO_231000 := n1_; have HO_231001 := n2_; have HO_235000 := n3_; have HO_235001 := n4_; have BK220 := n5_; have BK221 := n6_; have BK230 := n7_; have BK234 := n8_; have HB := n9_; clear n0_ n1_ n2_ n3_ n4_ n5_ n6_ n7_ n8_ n9_; (try clear hb); (try clear hb2); (try clear hk); (try clear hi); have hcz50_0 : w49.cell? ⟨gb220, 0, none⟩ = some (.slice A0_0 l0_0.length c0_0) := (blk_cell BK220.out 0).trans rfl; have hcz50_1 : w49.cell? ⟨gb220, 1, none⟩ = some (.slice A0_1 l0_1.length c0_1) := (blk_cell BK220.out 1).trans rfl; have hfz50_0 := blk_frozen BK220.out 0; have hfz50_1 := blk_frozen BK220.out 1) | ((with_reducible refine gate_callee (f := 47) rfl ?_); refine goesL_ (some 54) rfl rfl Try.func47 (by kernel_rfl) rfl #[.agg #[.slice A0_0 l0_0.length c0_0, .slice A0_1 l0_1.length c0_1], .int .i64 x10_3, .int .i64 x8_2] rfl lm ?_; (with_reducible refine (spec_l5Entry.calls k3 _ _ l0_0 _ _ l0_1 x10_3 x8_2 t243 _ ?side1 ?side2 ?side3 ?side4 A40.out).mono ?_); (case side1 => exact cb HR0_0.out); (case side2 => exact HC0_0.out); (case side3 => exact cb HR0_1.out); (case side4 => exact HC0_1.out); rintro e w51 ⟨rfl, hb⟩; refine ⟨_, rfl, ?_⟩; have n0_ := Aside0.mk (Kd.R_below (rk HO_9.out) hb); have n1_ := Aside0.mk (Kd.R_below (rk HO_231000.out) hb); have n2_ := Aside0.mk (Kd.R_below (rk HO_231001.out) hb); have n3_ := Aside0.mk (Kd.R_below (rk HO_235000.out) hb); have n4_ := Aside0.mk (Kd.S_below (by (with_reducible repeat (first | apply Kd.S_alloc | apply Kd.S_drewN | apply Kd.S_drew)); exact HO_235001.out) hb); have n5_ := Aside0.mk (blk_below (bk BK220.out) hb); have n6_ := Aside0.mk (blk_below (bk BK221.out) hb); have n7_ := Aside0.mk (blk_below (bk BK230.out) hb); have n8_ := Aside0.mk (blk_below (bk BK234.out) hb); have n9_ := Aside0.mk (below_step bset hb); clear HO_9; clear HO_231000; clear HO_231001; clear HO_235000; clear HO_235001; clear BK220; clear BK221; clear BK230; clear BK234; clear HB; have HO_9 := n0_; have HO_231000 := n1_; have HO_231001 := n2_; have HO_235000 := n3_; have HO_235001 := n4_; have BK220 := n5_; have BK221 := n6_; have BK230 := n7_; have BK234 := n8_; have HB := n9_; clear n0_ n1_ n2_ n3_ n4_ n5_ n6_ n7_ n8_ n9_; (try clear hb); (try clear hb2); (try clear hk); (try clear hi)) | ((with_reducible refine gate_builtin (b := .append) (xs := #[.tmp 50, .tmp 55]) rfl ?_); at_builtin; refine Kd.R_append (Kd.int .i64) (w0 := w) w.heap.size rfl (.tmp 50) (.tmp 55) 22 3 (.int .i64 0) 8 rfl Try.underlying22 info3 rfl (by decide) (by omega) u9 x9_3 t243 [.int .i64 t243] (fun k_ => some k_ ≠ (.slice Ao15 t223.length co15 : Value).ownBlock ∧ some k_ ≠ (.slice Ao19 t226.length co19 : Value).ownBlock ∧ some k_ ≠ (.slice Ao21 t231.length co21 : Value).ownBlock) (fun _ => False) rfl rfl ?aP (fun _ hk => hk.elim) ?aF ?aO ?aB ?aS ?aL ?_; (case aP => exact rfl); (case aB => exact bset); (case aF => exact (fun k_ hk => ⟨Kd.fresh' (Kd.R_lt (rk HO_231000.out)) k_ hk, Kd.fresh' (Kd.R_lt (rk HO_231001.out)) k_ hk, Kd.fresh' (Kd.R_lt (rk HO_235000.out)) k_ hk⟩)); (case aO => exact (rk HO_9.out)); (case aS => exact (below_size bset)); (case aL => have := LMc41.out; omega); intro v245 w52 ho hb hg hat; rw [← Ny244.out] at ho; have n0_ := Aside0.mk (Kd.R_after (ok := (fun k_ => some k_ ≠ (.slice Ao19 t226.length co19 : Value).ownBlock ∧ some k_ ≠ (.slice Ao21 t231.length co21 : Value).ownBlock)) (by (with_reducible repeat (first | apply Kd.R_alloc | apply Kd.R_drewN | apply Kd.R_drew)); exact Kd.R_mono HO_231000.out (fun _ hk => ⟨⟨hk.2.1, hk.2.2⟩, hk.1⟩)) hg hat); have n1_ := Aside0.mk (Kd.R_after (ok := (fun k_ => some k_ ≠ (.slice Ao15 t223.length co15 : Value).ownBlock ∧ some k_ ≠ (.slice Ao21 t231.length co21 : Value).ownBlock)) (by (with_reducible repeat (first | apply Kd.R_alloc | apply Kd.R_drewN | apply Kd.R_drew)); exact Kd.R_mono HO_231001.out (fun _ hk => ⟨⟨hk.2.1, hk.2.2⟩, hk.1⟩)) hg hat); have n2_ := Aside0.mk (Kd.R_after (ok := (fun k_ => some k_ ≠ (.slice Ao15 t223.length co15 : Value).ownBlock ∧ some k_ ≠ (.slice Ao19 t226.length co19 : Value).ownBlock)) (by (with_reducible repeat (first | apply Kd.R_alloc | apply Kd.R_drewN | apply Kd.R_drew)); exact Kd.R_mono HO_235000.out (fun _ hk => ⟨⟨hk.2.1, hk.2.2⟩, hk.1⟩)) hg hat); have n3_ := Aside0.mk (Kd.S_after (ok := (fun k_ => some k_ ≠ (.slice Ao15 t223.length co15 : Value).ownBlock ∧ some k_ ≠ (.slice Ao19 t226.length co19 : Value).ownBlock ∧ some k_ ≠ (.slice Ao21 t231.length co21 : Value).ownBlock)) (by (with_reducible repeat (first | apply Kd.S_alloc | apply Kd.S_drewN | apply Kd.S_drew)); exact Kd.S_mono HO_235001.out (fun _ hk => ⟨⟨hk.2.1, ⟨hk.2.2.1, hk.2.2.2⟩⟩, hk.1⟩)) hg hat); have n4_ := Aside0.mk (blk_grown (g := gb220) (o := .cells #[.slice A0_0 l0_0.length c0_0, .slice A0_1 l0_1.length c0_1] 28 (0, 0)) (bk BK220.out) hg (Kd.R_ne HO_9.out BK220.out (by decide))); have n5_ := Aside0.mk (blk_grown (g := gb221) (o := .cells #[.slice none 0 0, .slice none 0 0] 28 (0, 0)) (bk BK221.out) hg (Kd.R_ne HO_9.out BK221.out (by decide))); have n6_ := Aside0.mk (blk_grown (g := gb230) (o := .cells #[.slice Ao15 t223.length co15, .slice Ao19 t226.length co19] 34 (0, 0)) (bk BK230.out) hg (Kd.R_ne HO_9.out BK230.out (by decide))); have n7_ := Aside0.mk (blk_grown (g := gb234) (o := .cells #[.slice Ao21 t231.length co21, u235001] 28 (0, 0)) (bk BK234.out) hg (Kd.R_ne HO_9.out BK234.out (by decide))); have n8_ := Aside0.mk (hb); have n9_ := Aside0.mk (ho); clear HO_231000; clear HO_231001; clear HO_235000; clear HO_235001; clear BK220; clear BK221; clear BK230; clear BK234; clear HB; clear HO_9; have HO_231000 := n0_; have HO_231001 := n1_; have HO_235000 := n2_; have HO_235001 := n3_; have BK220 := n4_; have BK221 := n5_; have BK230 := n6_; have BK234 := n7_; have HB := n8_; have HO246 := n9_; clear n0_ n1_ n2_ n3_ n4_ n5_ n6_ n7_ n8_ n9_; clear ho hb hg hat))
            go_roundg k3
            case measure => have := HJ5.out; have := HK2.out; have := HK3.out; omega
            case rel => exact ⟨(y244), (wrap64 (x10_3 + 1)), (by first | rfl | (simp; done) | (simp [*]; done)), H', ⟨by have := HJ5.out; have := HK2.out; have := HK3.out; omega⟩, ⟨rk HO246.out⟩, ⟨by (with_reducible repeat (first | apply Kd.R_alloc | apply Kd.R_drewN | apply Kd.R_drew)); exact Kd.R_mono HO_231000.out (fun _ hk => ⟨hk.2, ⟨hk.1.1, hk.1.2⟩⟩)⟩, ⟨by (with_reducible repeat (first | apply Kd.R_alloc | apply Kd.R_drewN | apply Kd.R_drew)); exact Kd.R_mono HO_231001.out (fun _ hk => ⟨hk.2, ⟨hk.1.1, hk.1.2⟩⟩)⟩, ⟨by (with_reducible repeat (first | apply Kd.R_alloc | apply Kd.R_drewN | apply Kd.R_drew)); exact Kd.R_mono HO_235000.out (fun _ hk => ⟨hk.2, ⟨hk.1.1, hk.1.2⟩⟩)⟩, ⟨by (with_reducible repeat (first | apply Kd.S_alloc | apply Kd.S_drewN | apply Kd.S_drew)); exact Kd.S_mono HO_235001.out (fun _ hk => ⟨hk.2, ⟨hk.1.1, ⟨hk.1.2.1, hk.1.2.2⟩⟩⟩)⟩, ⟨bk BK220.out⟩, ⟨bk BK221.out⟩, ⟨bk BK230.out⟩, ⟨bk BK234.out⟩, ⟨by repeat (first | (with_reducible first | exact HB.out | apply below_alloc | apply pw_below_drewN | apply below_drew1 | refine below_set ?_ GE220.out | refine below_set ?_ GE221.out | refine below_set ?_ GE230.out | refine below_set ?_ GE234.out) | exact HB.out)⟩⟩
           ·rw [if_neg c41] at H
            exact absurd H (by simp)
          ·rw [if_neg c39] at H
           have c39b0 : decide (0 < t242) = false := decide_eq_false c39
           clear c39
           have H' := Aside0.mk H
           clear H
           have hnb53 := NB230_220.out
           have hnc53 := NB220_230.out
           have hnb54 := NB230_221.out
           have hnc54 := NB221_230.out
           have hnb55 := NB230_234.out
           have hnc55 := NB234_230.out
           have hcz56_0 : wr.cell? ⟨gb230, 0, none⟩ = some (.slice Ao15 t223.length co15) := (blk_cell BK230.out 0).trans rfl
           have hcz56_1 : wr.cell? ⟨gb230, 1, none⟩ = some (.slice Ao19 t226.length co19) := (blk_cell BK230.out 1).trans rfl
           have hfz56_0 := blk_frozen BK230.out 0
           have hfz56_1 := blk_frozen BK230.out 1
           have hnb57 := NB220_221.out
           have hnc57 := NB221_220.out
           have hnb58 := NB220_234.out
           have hnc58 := NB234_220.out
           have hcz59_0 : wr.cell? ⟨gb220, 0, none⟩ = some (.slice A0_0 l0_0.length c0_0) := (blk_cell BK220.out 0).trans rfl
           have hcz59_1 : wr.cell? ⟨gb220, 1, none⟩ = some (.slice A0_1 l0_1.length c0_1) := (blk_cell BK220.out 1).trans rfl
           have hfz59_0 := blk_frozen BK220.out 0
           have hfz59_1 := blk_frozen BK220.out 1
           go_wp2_with (first | ((with_reducible refine gate_callee (f := 47) rfl ?_); refine goesL_ (some 48) rfl rfl Try.func47 (by kernel_rfl) rfl #[.agg #[.slice A0_0 l0_0.length c0_0, .slice A0_1 l0_1.length c0_1], .int .i64 x10_3, .int .i64 x8_2] rfl lm ?_; (with_reducible refine (spec_l5Entry.calls k3 _ _ l0_0 _ _ l0_1 x10_3 x8_2 t242 _ ?side1 ?side2 ?side3 ?side4 A38.out).mono ?_); (case side1 => exact cb HR0_0.out); (case side2 => exact HC0_0.out); (case side3 => exact cb HR0_1.out); (case side4 => exact HC0_1.out); rintro e w60 ⟨rfl, hb⟩; refine ⟨_, rfl, ?_⟩; have n0_ := Aside0.mk (Kd.R_below (rk HO_9.out) hb); have n1_ := Aside0.mk (Kd.R_below (rk HO_231000.out) hb); have n2_ := Aside0.mk (Kd.R_below (rk HO_231001.out) hb); have n3_ := Aside0.mk (Kd.R_below (rk HO_235000.out) hb); have n4_ := Aside0.mk (Kd.S_below (by (with_reducible repeat (first | apply Kd.S_alloc | apply Kd.S_drewN | apply Kd.S_drew)); exact HO_235001.out) hb); have n5_ := Aside0.mk (blk_below (bk BK220.out) hb); have n6_ := Aside0.mk (blk_below (bk BK221.out) hb); have n7_ := Aside0.mk (blk_below (bk BK230.out) hb); have n8_ := Aside0.mk (blk_below (bk BK234.out) hb); have n9_ := Aside0.mk (below_step bset hb); clear HO_9; clear HO_231000; clear HO_231001; clear HO_235000; clear HO_235001; clear BK220; clear BK221; clear BK230; clear BK234; clear HB; have HO_9 := n0_; have HO_231000 := n1_; have HO_231001 := n2_; have HO_235000 := n3_; have HO_235001 := n4_; have BK220 := n5_; have BK221 := n6_; have BK230 := n7_; have BK234 := n8_; have HB := n9_; clear n0_ n1_ n2_ n3_ n4_ n5_ n6_ n7_ n8_ n9_; (try clear hb); (try clear hb2); (try clear hk); (try clear hi)))
           go_roundg k3
           case measure => have := HJ5.out; have := HK2.out; have := HK3.out; omega
           case rel => exact ⟨(x9_3), (wrap64 (x10_3 + 1)), (by first | rfl | (simp; done) | (simp [*]; done)), H', ⟨by have := HJ5.out; have := HK2.out; have := HK3.out; omega⟩, ⟨rk HO_9.out⟩, ⟨rk HO_231000.out⟩, ⟨rk HO_231001.out⟩, ⟨rk HO_235000.out⟩, ⟨by (with_reducible repeat (first | apply Kd.S_alloc | apply Kd.S_drewN | apply Kd.S_drew)); exact HO_235001.out⟩, ⟨bk BK220.out⟩, ⟨bk BK221.out⟩, ⟨bk BK230.out⟩, ⟨bk BK234.out⟩, ⟨by repeat (first | (with_reducible first | exact HB.out | apply below_alloc | apply pw_below_drewN | apply below_drew1 | refine below_set ?_ GE220.out | refine below_set ?_ GE221.out | refine below_set ?_ GE230.out | refine below_set ?_ GE234.out) | exact HB.out)⟩⟩
         ·rw [if_neg c37] at H
          have c37b0 : decide (x10_3 < (t223.length : Int)) = false := decide_eq_false c37
          clear c37
          by_cases c61 : x235001_2.length < 5864062014805
          ·rw [if_pos c61] at H
           have LMc61 := Aside0.mk c61
           clear c61
           obtain ⟨y239, hy239⟩ : ∃ y_ : List (List Int), y_ = (x235001_2 ++ [x9_3]) := ⟨_, rfl⟩
           replace H : (spec_TurnTableau.l0 k3 x7_5 (wrap64 (x8_2 + 1)) l0_0 l0_1 t223 t226 t231 y239) = some (r1, r2, r3) := by first | (rw [hy239]; with_reducible exact H) | (have H2_ := (Option.bind_some _ _).symm.trans H; rw [hy239]; with_reducible exact H2_) | (have H2_ := (Option.bind_some _ _).symm.trans H; with_reducible exact H2_) | with_reducible exact H | (rw [hy239]; exact H) | exact H
           have Ny239 := Aside0.mk hy239
           clear hy239
           have H' := Aside0.mk H
           clear H
           have hnb62 := NB230_220.out
           have hnc62 := NB220_230.out
           have hnb63 := NB230_221.out
           have hnc63 := NB221_230.out
           have hnb64 := NB230_234.out
           have hnc64 := NB234_230.out
           have hcz65_0 : wr.cell? ⟨gb230, 0, none⟩ = some (.slice Ao15 t223.length co15) := (blk_cell BK230.out 0).trans rfl
           have hcz65_1 : wr.cell? ⟨gb230, 1, none⟩ = some (.slice Ao19 t226.length co19) := (blk_cell BK230.out 1).trans rfl
           have hfz65_0 := blk_frozen BK230.out 0
           have hfz65_1 := blk_frozen BK230.out 1
           have hnb66 := NB234_220.out
           have hnc66 := NB220_234.out
           have hnb67 := NB234_221.out
           have hnc67 := NB221_234.out
           have hcz68_0 : wr.cell? ⟨gb234, 0, none⟩ = some (.slice Ao21 t231.length co21) := (blk_cell BK234.out 0).trans rfl
           have hcz68_1 : wr.cell? ⟨gb234, 1, none⟩ = some (u235001) := (blk_cell BK234.out 1).trans rfl
           have hfz68_0 := blk_frozen BK234.out 0
           have hfz68_1 := blk_frozen BK234.out 1
           obtain ⟨Ao70, co70, eo70⟩ := Kd.R_slice HO_9.out
           subst eo70
           go_wp2_with (first | ((with_reducible refine gate_builtin (b := .append) (xs := #[.tmp 58, .tmp 60]) rfl ?_); at_builtin; refine Kd.S_append (Kd.slice 3 (Kd.int .i64)) (w0 := w) w.heap.size rfl (.tmp 58) (.tmp 60) 23 22 (.slice none 0 0) 24 rfl Try.underlying23 info22 rfl (by decide) (by omega) u235001 x235001_2 x9_3 [.slice Ao70 x9_3.length co70] (fun k_ => some k_ ≠ (.slice Ao15 t223.length co15 : Value).ownBlock ∧ some k_ ≠ (.slice Ao19 t226.length co19 : Value).ownBlock ∧ some k_ ≠ (.slice Ao21 t231.length co21 : Value).ownBlock) (fun k_ => some k_ = (.slice Ao70 x9_3.length co70 : Value).ownBlock) rfl rfl ?aP (fun k_ hk_ => ((Kd.R_mono (ok' := fun k_ => ((fun k_ => some k_ ≠ (.slice Ao15 t223.length co15 : Value).ownBlock ∧ some k_ ≠ (.slice Ao19 t226.length co19 : Value).ownBlock ∧ some k_ ≠ (.slice Ao21 t231.length co21 : Value).ownBlock)) k_ ∧ some k_ ≠ (u235001 : Value).ownBlock) (Kd.R_apart' (HO_9.out) (Kd.S_typed HO_235001.out) (by decide)) (fun k_ hk => ⟨⟨hk.1.1, ⟨hk.1.2.1, hk.1.2.2⟩⟩, hk.2⟩))).1 k_ hk_.symm) ?aF ?aO ?aB ?aS ?aL ?_; (case aP => exact Kd.M_row (Kd.R_mono (Kd.R_tight rfl (Kd.R_mono (ok' := fun k_ => ((fun k_ => some k_ ≠ (.slice Ao15 t223.length co15 : Value).ownBlock ∧ some k_ ≠ (.slice Ao19 t226.length co19 : Value).ownBlock ∧ some k_ ≠ (.slice Ao21 t231.length co21 : Value).ownBlock)) k_ ∧ some k_ ≠ (u235001 : Value).ownBlock) (Kd.R_apart' (HO_9.out) (Kd.S_typed HO_235001.out) (by decide)) (fun k_ hk => ⟨⟨hk.1.1, ⟨hk.1.2.1, hk.1.2.2⟩⟩, hk.2⟩))) (fun _ h_ => h_))); (case aB => exact bset); (case aF => exact (fun k_ hk => ⟨Kd.fresh' (Kd.R_lt (rk HO_231000.out)) k_ hk, Kd.fresh' (Kd.R_lt (rk HO_231001.out)) k_ hk, Kd.fresh' (Kd.R_lt (rk HO_235000.out)) k_ hk⟩)); (case aO => exact (by (with_reducible repeat (first | apply Kd.S_alloc | apply Kd.S_drewN | apply Kd.S_drew)); exact Kd.S_mono HO_235001.out (fun k_ hk => ⟨⟨hk.2.1, ⟨hk.2.2.1, hk.2.2.2⟩⟩, fun e_ => hk.1 e_⟩))); (case aS => exact (below_size bset)); (case aL => have := LMc61.out; omega); intro v240 w69 ho hb hg hat; rw [← Ny239.out] at ho; have n0_ := Aside0.mk (Kd.R_over' (rk HO_231000.out) (Kd.S_typed (by (with_reducible repeat (first | apply Kd.S_alloc | apply Kd.S_drewN | apply Kd.S_drew)); exact HO_235001.out)) (by decide) hg); have n1_ := Aside0.mk (Kd.R_over' (rk HO_231001.out) (Kd.S_typed (by (with_reducible repeat (first | apply Kd.S_alloc | apply Kd.S_drewN | apply Kd.S_drew)); exact HO_235001.out)) (by decide) hg); have n2_ := Aside0.mk (Kd.R_over' (rk HO_235000.out) (Kd.S_typed (by (with_reducible repeat (first | apply Kd.S_alloc | apply Kd.S_drewN | apply Kd.S_drew)); exact HO_235001.out)) (by decide) hg); have n3_ := Aside0.mk (blk_grown (g := gb220) (o := .cells #[.slice A0_0 l0_0.length c0_0, .slice A0_1 l0_1.length c0_1] 28 (0, 0)) (bk BK220.out) hg (Kd.S_ne HO_235001.out BK220.out (by decide))); have n4_ := Aside0.mk (blk_grown (g := gb221) (o := .cells #[.slice none 0 0, .slice none 0 0] 28 (0, 0)) (bk BK221.out) hg (Kd.S_ne HO_235001.out BK221.out (by decide))); have n5_ := Aside0.mk (blk_grown (g := gb230) (o := .cells #[.slice Ao15 t223.length co15, .slice Ao19 t226.length co19] 34 (0, 0)) (bk BK230.out) hg (Kd.S_ne HO_235001.out BK230.out (by decide))); have n6_ := Aside0.mk (blk_grown (g := gb234) (o := .cells #[.slice Ao21 t231.length co21, u235001] 28 (0, 0)) (bk BK234.out) hg (Kd.S_ne HO_235001.out BK234.out (by decide))); have n7_ := Aside0.mk (hb); have n8_ := Aside0.mk (ho); clear HO_231000; clear HO_231001; clear HO_235000; clear BK220; clear BK221; clear BK230; clear BK234; clear HB; clear HO_235001; clear HO_9; have HO_231000 := n0_; have HO_231001 := n1_; have HO_235000 := n2_; have BK220 := n3_; have BK221 := n4_; have BK230 := n5_; have BK234 := n6_; have HB := n7_; have HO241 := n8_; clear n0_ n1_ n2_ n3_ n4_ n5_ n6_ n7_ n8_; clear ho hb hg hat; obtain ⟨Ao71, co71, eo71⟩ := Kd.S_slice HO241.out; subst eo71; have hcz72_0 : w69.cell? ⟨gb234, 0, none⟩ = some (.slice Ao21 t231.length co21) := (blk_cell BK234.out 0).trans rfl; have hcz72_1 : w69.cell? ⟨gb234, 1, none⟩ = some (u235001) := (blk_cell BK234.out 1).trans rfl; have hfz72_0 := blk_frozen BK234.out 0; have hfz72_1 := blk_frozen BK234.out 1))
           go_roundg k3
           case measure => have := HJ5.out; have := HK2.out; have := HK3.out; omega
           case rel => exact ⟨(wrap64 (x8_2 + 1)), (y239), (.slice Ao71 y239.length co71), (by first | rfl | (simp; done) | (simp [*]; done)), H', ⟨by have := HJ5.out; have := HK2.out; have := HK3.out; omega⟩, ⟨by (with_reducible repeat (first | apply Kd.R_alloc | apply Kd.R_drewN | apply Kd.R_drew)); exact Kd.R_mono (Kd.R_far (p := ⟨gb234, 1, none⟩) (Kd.R_types HO_231000.out BK234.out (by decide)) (fun _ hk => hk.2) (.slice Ao71 y239.length co71)) (fun _ hk => ⟨hk.1.2.1, hk.1.2.2⟩)⟩, ⟨by (with_reducible repeat (first | apply Kd.R_alloc | apply Kd.R_drewN | apply Kd.R_drew)); exact Kd.R_mono (Kd.R_far (p := ⟨gb234, 1, none⟩) (Kd.R_types HO_231001.out BK234.out (by decide)) (fun _ hk => hk.2) (.slice Ao71 y239.length co71)) (fun _ hk => ⟨hk.1.2.1, hk.1.2.2⟩)⟩, ⟨by (with_reducible repeat (first | apply Kd.R_alloc | apply Kd.R_drewN | apply Kd.R_drew)); exact Kd.R_mono (Kd.R_far (p := ⟨gb234, 1, none⟩) (Kd.R_types HO_235000.out BK234.out (by decide)) (fun _ hk => hk.2) (.slice Ao71 y239.length co71)) (fun _ hk => ⟨hk.1.2.1, hk.1.2.2⟩)⟩, ⟨by (with_reducible repeat (first | apply Kd.S_alloc | apply Kd.S_drewN | apply Kd.S_drew)); exact Kd.S_mono (Kd.S_far (p := ⟨gb234, 1, none⟩) (Kd.S_types HO241.out BK234.out (by decide)) (fun _ hk => hk.2) (.slice Ao71 y239.length co71)) (fun _ hk => ⟨hk.1.1, ⟨hk.1.2.1, hk.1.2.2⟩⟩)⟩, ⟨by (with_reducible repeat (first | refine blk_drewN ?_ _ | refine blk_drew ?_ | refine blk_alloc ?_ _)); refine blk_far ?_ NB220_234.out _; (with_reducible repeat (first | refine blk_drewN ?_ _ | refine blk_drew ?_ | refine blk_alloc ?_ _)); exact BK220.out⟩, ⟨by (with_reducible repeat (first | refine blk_drewN ?_ _ | refine blk_drew ?_ | refine blk_alloc ?_ _)); refine blk_far ?_ NB221_234.out _; (with_reducible repeat (first | refine blk_drewN ?_ _ | refine blk_drew ?_ | refine blk_alloc ?_ _)); exact BK221.out⟩, ⟨by (with_reducible repeat (first | refine blk_drewN ?_ _ | refine blk_drew ?_ | refine blk_alloc ?_ _)); refine blk_far ?_ NB230_234.out _; (with_reducible repeat (first | refine blk_drewN ?_ _ | refine blk_drew ?_ | refine blk_alloc ?_ _)); exact BK230.out⟩, ⟨by (with_reducible repeat (first | refine blk_drewN ?_ _ | refine blk_drew ?_ | refine blk_alloc ?_ _)); refine blk_put (cs := #[.slice Ao21 t231.length co21, u235001]) ?_ 1 _ rfl; (with_reducible repeat (first | refine blk_drewN ?_ _ | refine blk_drew ?_ | refine blk_alloc ?_ _)); exact BK234.out⟩, ⟨by repeat (first | (with_reducible first | exact HB.out | apply below_alloc | apply pw_below_drewN | apply below_drew1 | refine below_set ?_ GE220.out | refine below_set ?_ GE221.out | refine below_set ?_ GE230.out | refine below_set ?_ GE234.out) | exact HB.out)⟩⟩
          ·rw [if_neg c61] at H
           exact absurd H (by simp)
      ·rw [if_neg c34] at H
       have c34b0 : decide (x8_2 < x7_5) = false := decide_eq_false c34
       clear c34
       simp only [Option.some.injEq, Prod.mk.injEq] at H
       obtain ⟨rfl, rfl, rfl⟩ := H
       have hnb73 := NB234_220.out
       have hnc73 := NB220_234.out
       have hnb74 := NB234_221.out
       have hnc74 := NB221_234.out
       have hnb75 := NB234_230.out
       have hnc75 := NB230_234.out
       have hcz76_0 : wr.cell? ⟨gb234, 0, none⟩ = some (.slice Ao21 t231.length co21) := (blk_cell BK234.out 0).trans rfl
       have hcz76_1 : wr.cell? ⟨gb234, 1, none⟩ = some (u235001) := (blk_cell BK234.out 1).trans rfl
       have hfz76_0 := blk_frozen BK234.out 0
       have hfz76_1 := blk_frozen BK234.out 1
       have hnb77 := NB221_220.out
       have hnc77 := NB220_221.out
       have hnb78 := NB221_230.out
       have hnc78 := NB230_221.out
       have hcz79_0 : wr.cell? ⟨gb221, 0, none⟩ = some (.slice none 0 0) := (blk_cell BK221.out 0).trans rfl
       have hcz79_1 : wr.cell? ⟨gb221, 1, none⟩ = some (.slice none 0 0) := (blk_cell BK221.out 1).trans rfl
       have hfz79_0 := blk_frozen BK221.out 0
       have hfz79_1 := blk_frozen BK221.out 1
       obtain ⟨Ao80, co80, eo80⟩ := Kd.S_slice HO_235001.out
       subst eo80
       go_wp2
       refine bodyPost_ret (results_ct rfl _ _ gb221 28 #[.slice Ao21 t231.length co21, .slice Ao80 x235001_2.length co80] (0, 0) _ rfl (by (with_reducible repeat (first | refine blk_drewN ?_ _ | refine blk_drew ?_ | refine blk_alloc ?_ _)); refine blk_put (cs := #[.slice Ao21 t231.length co21, .slice none 0 0]) ?_ 1 _ rfl; (with_reducible repeat (first | refine blk_drewN ?_ _ | refine blk_drew ?_ | refine blk_alloc ?_ _)); refine blk_put (cs := #[.slice none 0 0, .slice none 0 0]) ?_ 0 _ rfl; (with_reducible repeat (first | refine blk_drewN ?_ _ | refine blk_drew ?_ | refine blk_alloc ?_ _)); exact BK221.out) Try.underlying28 rfl (by kernel_rfl)) rfl ?_
       exact ⟨_, _, by first | rfl | (simp [errW_none, errW_some] <;> rfl) | (simp [*, errW_none, errW_some] <;> rfl), by (with_reducible repeat (first | apply Kd.R_alloc | apply Kd.R_drewN | apply Kd.R_drew)); exact Kd.R_mono (Kd.R_far (p := ⟨gb221, 1, none⟩) (Kd.R_far (p := ⟨gb221, 0, none⟩) (Kd.R_types HO_235000.out BK221.out (by decide)) (fun _ hk => hk.2) (.slice Ao21 t231.length co21)) (fun _ hk => hk.2) (.slice Ao80 x235001_2.length co80)) (fun _ hk => trivial), by (with_reducible repeat (first | apply Kd.S_alloc | apply Kd.S_drewN | apply Kd.S_drew)); exact Kd.S_mono (Kd.S_far (p := ⟨gb221, 1, none⟩) (Kd.S_far (p := ⟨gb221, 0, none⟩) (Kd.S_types HO_235001.out BK221.out (by decide)) (fun _ hk => hk.2) (.slice Ao21 t231.length co21)) (fun _ hk => hk.2) (.slice Ao80 x235001_2.length co80)) (fun _ hk => hk.1.2.2), by repeat (first | (with_reducible first | exact HB.out | apply below_alloc | apply pw_below_drewN | apply below_drew1 | refine below_set ?_ GE220.out | refine below_set ?_ GE221.out | refine below_set ?_ GE230.out | refine below_set ?_ GE234.out) | exact HB.out)⟩
 ·replace c3 := Bool.eq_false_iff.mpr c3
  subst c3
  have H1 : (some (([] : List Int), ([] : List (List Int)), false)) = some (r1, r2, r3) := by rw [if_neg (show ¬ (false = true) by decide)] at H; exact H
  clear H
  have H := H1
  clear H1
  simp only [Option.some.injEq, Prod.mk.injEq] at H
  obtain ⟨rfl, rfl, rfl⟩ := H
  go_enter Try.func35, Try.ntmps35
  go_wp2_with (first | ((with_reducible refine gate_dst (N := 1) rfl ?_); refine box_event ?hg (N := 1) ?hd (cs := #[.slice A0_0 l0_0.length c0_0, .slice A0_1 l0_1.length c0_1]) (t := 28) ?hr ?_; (case hd => rfl); (case hg => rfl); (case hr => first | (go_simp; done) | (go_simp; rfl)); intro gb220 hg w81 hbox hb; have n0_ := Aside0.mk (below_step bnow hb); have n1_ := Aside0.mk (hbox); have n2_ := Aside0.mk ((by rw [hg]; exact (below_size bnow) : w.heap.size ≤ gb220)); have n3_ := Aside0.mk ((by rw [hg]; exact (below_size bnow) : w.heap.size ≤ gb220)); clear HB; have HB := n0_; have BK220 := n1_; have GW220 := n2_; have GE220 := n3_; clear n0_ n1_ n2_ n3_; clear hb hbox hg) | ((with_reducible refine gate_dst (N := 2) rfl ?_); refine box_event ?hg (N := 2) ?hd (cs := #[.slice none 0 0, .slice none 0 0]) (t := 28) ?hr ?_; (case hd => rfl); (case hg => rfl); (case hr => first | (go_simp; done) | (go_simp; rfl)); intro gb221 hg w82 hbox hb; have n0_ := Aside0.mk (blk_below (bk BK220.out) hb); have n1_ := Aside0.mk (below_step bset hb); have n2_ := Aside0.mk (hbox); have n3_ := Aside0.mk ((by rw [hg]; exact (below_size bset) : w.heap.size ≤ gb221)); have n4_ := Aside0.mk ((by rw [hg]; exact (below_size bset) : w.heap.size ≤ gb221)); have n5_ := Aside0.mk ((by rw [hg]; exact Nat.ne_of_lt (blk_lt (g := gb220) (o := .cells #[.slice A0_0 l0_0.length c0_0, .slice A0_1 l0_1.length c0_1] 28 (0, 0)) (bk BK220.out)) : gb220 ≠ gb221)); have n6_ := Aside0.mk ((by rw [hg]; exact Nat.ne_of_gt (blk_lt (g := gb220) (o := .cells #[.slice A0_0 l0_0.length c0_0, .slice A0_1 l0_1.length c0_1] 28 (0, 0)) (bk BK220.out)) : gb221 ≠ gb220)); clear BK220; clear HB; have BK220 := n0_; have HB := n1_; have BK221 := n2_; have GW221 := n3_; have GE221 := n4_; have NB220_221 := n5_; have NB221_220 := n6_; clear n0_ n1_ n2_ n3_ n4_ n5_ n6_; clear hb hbox hg; have hnb83 := NB220_221.out; have hnc83 := NB221_220.out; have hcz84_0 : w82.cell? ⟨gb220, 0, none⟩ = some (.slice A0_0 l0_0.length c0_0) := (blk_cell BK220.out 0).trans rfl; have hcz84_1 : w82.cell? ⟨gb220, 1, none⟩ = some (.slice A0_1 l0_1.length c0_1) := (blk_cell BK220.out 1).trans rfl; have hfz84_0 := blk_frozen BK220.out 0; have hfz84_1 := blk_frozen BK220.out 1) | ((with_reducible refine gate_callee (f := 26) rfl ?_); refine goesL_ (some 12) rfl rfl Try.func26 (by kernel_rfl) rfl #[.agg #[.slice A0_0 l0_0.length c0_0, .slice A0_1 l0_1.length c0_1]] rfl lm ?_; (with_reducible refine (spec_IsStandard.calls k _ _ l0_0 _ _ l0_1 false _ ?side1 ?side2 ?side3 ?side4 A2.out).mono ?_); (case side1 => exact cb HR0_0.out); (case side2 => exact HC0_0.out); (case side3 => exact cb HR0_1.out); (case side4 => exact HC0_1.out); rintro e w85 ⟨rfl, hb⟩; refine ⟨_, rfl, ?_⟩; have n0_ := Aside0.mk (blk_below (bk BK220.out) hb); have n1_ := Aside0.mk (blk_below (bk BK221.out) hb); have n2_ := Aside0.mk (below_step bset hb); clear BK220; clear BK221; clear HB; have BK220 := n0_; have BK221 := n1_; have HB := n2_; clear n0_ n1_ n2_; (try clear hb); (try clear hb2); (try clear hk); (try clear hi); have hcz86_0 : w85.cell? ⟨gb221, 0, none⟩ = some (.slice none 0 0) := (blk_cell BK221.out 0).trans rfl; have hcz86_1 : w85.cell? ⟨gb221, 1, none⟩ = some (.slice none 0 0) := (blk_cell BK221.out 1).trans rfl; have hfz86_0 := blk_frozen BK221.out 0; have hfz86_1 := blk_frozen BK221.out 1))
  refine bodyPost_ret (results_ct rfl _ _ gb221 28 #[.slice none 0 0, .slice none 0 0] (0, 0) _ rfl (by (with_reducible repeat (first | refine blk_drewN ?_ _ | refine blk_drew ?_ | refine blk_alloc ?_ _)); refine blk_put (cs := #[.slice none 0 0, .slice none 0 0]) ?_ 1 _ rfl; (with_reducible repeat (first | refine blk_drewN ?_ _ | refine blk_drew ?_ | refine blk_alloc ?_ _)); refine blk_put (cs := #[.slice none 0 0, .slice none 0 0]) ?_ 0 _ rfl; (with_reducible repeat (first | refine blk_drewN ?_ _ | refine blk_drew ?_ | refine blk_alloc ?_ _)); exact BK221.out) Try.underlying28 rfl (by kernel_rfl)) rfl ?_
  exact ⟨_, _, by first | rfl | (simp [errW_none, errW_some] <;> rfl) | (simp [*, errW_none, errW_some] <;> rfl), by first | exact Kd.R_nil _ _ _ _ _ | exact Kd.N_nil _ _ _ _ _ | exact Kd.V_nil _ _ _ _ _ | exact Kd.Q_nil _ _ _ _ _ | exact Kd.S_nil _ _ _ _ _, by first | exact Kd.S_nil _ _ _ _ _ | exact Kd.N_nil _ _ _ _ _ | exact Kd.V_nil _ _ _ _ _ | exact Kd.Q_nil _ _ _ _ _ | exact Kd.R_nil _ _ _ _ _, by repeat (first | (with_reducible first | exact HB.out | apply below_alloc | apply pw_below_drewN | apply below_drew1 | refine below_set ?_ GE220.out | refine below_set ?_ GE221.out) | exact HB.out)⟩

/-! ### impl_within: function 49 -/
def impl_within.f (a0 : Int) (a1 : Int) (a2 : Int) : Option (Bool) := if a1 ≤ a0 then (some (decide (a0 ≤ a2))) else (some false)
set_option maxHeartbeats 8000000 in
set_option maxRecDepth 100000 in
theorem impl_within.calls (a0 : Int) (a1 : Int) (a2 : Int) (r : Bool) (w : World) (h : impl_within.f a0 a1 a2 = some r) :
  Calls Try.prog 49 #[.int .i64 a0, .int .i64 a1, .int .i64 a2] w fun e w' => e = .returned (.bool r) ∧ Drawn0 w w' := by
 have H : (if a1 ≤ a0 then (some (decide (a0 ≤ a2))) else (some false)) = some r := h
 clear h
 by_cases c4 : a1 ≤ a0
 ·rw [if_pos c4] at H
  have c4b0 : decide (a1 ≤ a0) = true := decide_eq_true c4
  clear c4
  obtain rfl := Option.some.inj H
  go_enter Try.func49, Try.ntmps49
  go_wp2
  go_ret
  exact ⟨by first | rfl | (simp; done) | (simp [*]; done), by repeat (first | exact Drawn0.refl _ | apply Drawn0.step)⟩
 ·rw [if_neg c4] at H
  have c4b0 : decide (a1 ≤ a0) = false := decide_eq_false c4
  clear c4
  obtain rfl := Option.some.inj H
  go_enter Try.func49, Try.ntmps49
  go_wp2
  go_ret
  exact ⟨by first | rfl | (simp; done) | (simp [*]; done), by repeat (first | exact Drawn0.refl _ | apply Drawn0.step)⟩

end Go.Proofs.Ytiehngfcfdlbnaa.QFnExactTurnTableau
