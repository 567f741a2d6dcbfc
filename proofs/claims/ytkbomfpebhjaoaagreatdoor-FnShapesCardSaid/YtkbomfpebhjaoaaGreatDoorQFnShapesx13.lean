/- A text of this session's own program (wip/myprint.py): functions that the law FnShapes reaches, as plain Lean functions, each with the proof that the call does just that. No condition beyond those that each statement bears. -/
import Derived.Test.YtkbomfpebhjaoaaGreatDoorQFnShapesx0
import Derived.Test.YtkbomfpebhjaoaaGreatDoorQFnShapesx4
import Derived.Test.YtkbomfpebhjaoaaGreatDoorQFnShapesx11
import Derived.Test.YtkbomfpebhjaoaaGreatDoorQFnShapesx12
namespace Go.Proofs.YtkbomfpebhjaoaaGreatDoor.QFnShapes
open Go.Proofs.YtkbomfpebhjaoaaGreatDoor.Short Go.RowKit Go.Proofs.YtkbomfpebhjaoaaGreatDoorW.PrintWords Go.Proofs.YtkbomfpebhjaoaaGreatDoorW.PrintLast Go.Proofs.YtkbomfpebhjaoaaGreatDoorW.PrintMore
attribute [local go_sem] max2_int min2_int max_two min_two max_three min_three max_four min_four   -- for this text's walks alone
set_option linter.unusedVariables false
set_option linter.unusedSimpArgs false

/-! ### spec_l4Rows: function 46 -/
def spec_l4Rows.l0 : Nat → Int → Int → Int → List Int → List Int → Option (Int × Int)
 | 0, _, _, _, _, _ => none
 | k + 1, x4, x5, x6, x590000, x590001 => if x6 < (x590000.length : Int) then (if 0 ≤ x6 then ((spec_l2At.f x590001 x6).bind fun t591 => (if (rd x590000 x6) > t591 then (if x4 < 0 then (spec_l4Rows.l0 k x6 x6 (wrap64 (x6 + 1)) x590000 x590001) else (spec_l4Rows.l0 k x4 x6 (wrap64 (x6 + 1)) x590000 x590001)) else (spec_l4Rows.l0 k x4 x5 (wrap64 (x6 + 1)) x590000 x590001))) else (none)) else (some (x4, x5))
def spec_l4Rows.f (k : Nat) (l0_0 : List Int) (l0_1 : List Int) : Option (Int × Int) := spec_l4Rows.l0 k (-1) (-1) 0 l0_0 l0_1
theorem spec_l4Rows.mono_l : ∀ k, (∀ y0 y1 y2 y3 y4, LeO (spec_l4Rows.l0 k y0 y1 y2 y3 y4) (spec_l4Rows.l0 (k + 1) y0 y1 y2 y3 y4))
 | 0 => fun _ _ _ _ _ r h => by simp [spec_l4Rows.l0] at h
 | k + 1 => by
  have ih0 := spec_l4Rows.mono_l k
  ·intro y0 y1 y2 y3 y4
   unfold spec_l4Rows.l0
   repeat' first
   | (with_reducible exact ih0 _ _ _ _ _)
   | (with_reducible exact LeO.refl _)
   | (with_reducible exact LeO.none _)
   | (with_reducible refine LeO.ite ?_ ?_)
   | (with_reducible refine LeO.bind ?_ (fun _ => ?_))
   | exact ih0 _ _ _ _ _
   | exact LeO.none _
   | refine LeO.ite ?_ ?_
   | refine LeO.bind ?_ (fun _ => ?_)
theorem spec_l4Rows.mono : ∀ a0 a1 k, LeO (spec_l4Rows.f k a0 a1) (spec_l4Rows.f (k + 1) a0 a1) := by
 intro a0 a1 k
 have ih0 := spec_l4Rows.mono_l k
 unfold spec_l4Rows.f
 repeat' first
   | (with_reducible exact ih0 _ _ _ _ _)
   | (with_reducible exact LeO.refl _)
   | (with_reducible exact LeO.none _)
   | (with_reducible refine LeO.ite ?_ ?_)
   | (with_reducible refine LeO.bind ?_ (fun _ => ?_))
   | exact ih0 _ _ _ _ _
   | exact LeO.none _
   | refine LeO.ite ?_ ?_
   | refine LeO.bind ?_ (fun _ => ?_)
set_option maxHeartbeats 8000000 in
set_option maxRecDepth 100000 in
theorem spec_l4Rows.calls (k : Nat) (A0_0 : Option Addr) (c0_0 : Nat) (l0_0 : List Int) (A0_1 : Option Addr) (c0_1 : Nat) (l0_1 : List Int) (r1 : Int) (r2 : Int) (w : World) (hr0_0 : Kd.C (Kd.int .i64) w A0_0 l0_0.length l0_0) (hc0_0 : l0_0.length ≤ c0_0) (hr0_1 : Kd.C (Kd.int .i64) w A0_1 l0_1.length l0_1) (hc0_1 : l0_1.length ≤ c0_1) (h : spec_l4Rows.f k l0_0 l0_1 = some (r1, r2)) :
  Calls Tryz.prog 46 #[.agg #[.slice A0_0 l0_0.length c0_0, .slice A0_1 l0_1.length c0_1]] w fun e w' => e = .returned (.tuple #[.int .i64 r1, .int .i64 r2]) ∧ Below w.heap.size w w' := by
 have hu26 := Tryz.underlying26
 have HR0_0 := Aside0.mk hr0_0
 have HC0_0 := Aside0.mk hc0_0
 clear hr0_0 hc0_0
 have HR0_1 := Aside0.mk hr0_1
 have HC0_1 := Aside0.mk hc0_1
 clear hr0_1 hc0_1
 have HB := Aside0.mk (Below.refl w.heap.size w)
 have H : (spec_l4Rows.l0 k (-1) (-1) 0 l0_0 l0_1) = some (r1, r2) := h
 clear h
 have H' := Aside0.mk H
 clear H
 go_enter Tryz.func46, Tryz.ntmps46
 go_wp2_with (first | (refine boxE 1 #[.slice A0_0 l0_0.length c0_0, .slice A0_1 l0_1.length c0_1] 26 rfl ?_; intro gb589 hg w2 hbox hb; have BK589 := Aside0.mk (hbox); have GW589 := Aside0.mk ((by rw [hg]; exact (below_size bnow) : w.heap.size ≤ gb589)); have GE589 := Aside0.mk ((by rw [hg]; exact (below_size bnow) : w.heap.size ≤ gb589)); replace HB := Aside0.mk (below_step bnow hb); clear hb hbox hg))
 repeat (go_quiet (first | (refine boxE 1 #[.slice A0_0 l0_0.length c0_0, .slice A0_1 l0_1.length c0_1] 26 rfl ?_; intro gb589 hg w2 hbox hb; have BK589 := Aside0.mk (hbox); have GW589 := Aside0.mk ((by rw [hg]; exact (below_size bnow) : w.heap.size ≤ gb589)); have GE589 := Aside0.mk ((by rw [hg]; exact (below_size bnow) : w.heap.size ≤ gb589)); replace HB := Aside0.mk (below_step bnow hb); clear hb hbox hg)); try go_wp2_with (first | (refine boxE 1 #[.slice A0_0 l0_0.length c0_0, .slice A0_1 l0_1.length c0_1] 26 rfl ?_; intro gb589 hg w2 hbox hb; have BK589 := Aside0.mk (hbox); have GW589 := Aside0.mk ((by rw [hg]; exact (below_size bnow) : w.heap.size ≤ gb589)); have GE589 := Aside0.mk ((by rw [hg]; exact (below_size bnow) : w.heap.size ≤ gb589)); replace HB := Aside0.mk (below_step bnow hb); clear hb hbox hg)))
 go_loopg [4, 5, 6] k (fun kq v4 v5 v6 w' => ∃ (x4_1 : Int) (x5_1 : Int) (x6_1 : Int), v4 = .int .i64 x4_1 ∧ v5 = .int .i64 x5_1 ∧ v6 = .int .i64 x6_1 ∧ Aside0 (spec_l4Rows.l0 kq x4_1 x5_1 x6_1 l0_0 l0_1 = some (r1, r2)) ∧ Aside0 (kq ≤ k) ∧ Aside0 (w'.heap[gb589]? = some (.cells #[(.slice A0_0 l0_0.length c0_0), (.slice A0_1 l0_1.length c0_1)] 26 (0, 0))) ∧ Aside0 (Below w.heap.size w w'))
 case atStart => exact ⟨((-1)), ((-1)), (0), (by first | rfl | (simp; done) | (simp [*]; done)), (by first | rfl | (simp; done) | (simp [*]; done)), (by first | rfl | (simp; done) | (simp [*]; done)), H', ⟨Nat.le_refl _⟩, ⟨bk BK589.out⟩, ⟨bn HB.out⟩⟩
 case round =>
  clear H'
  try clear p2
  obtain ⟨x4_1, x5_1, x6_1, rfl, rfl, rfl, HA, HK1, BK589, HB⟩ := hrel
  cases gk with
  | zero => exact absurd HA.out (by simp [spec_l4Rows.l0])
  | succ k1 =>
   have H := HA.out
   clear HA
   simp only [spec_l4Rows.l0] at H
   by_cases c3 : x6_1 < (l0_0.length : Int)
   ·rw [if_pos c3] at H
    have c3b0 : decide (x6_1 < (l0_0.length : Int)) = true := decide_eq_true c3
    clear c3
    by_cases c4 : 0 ≤ x6_1
    ·rw [if_pos c4] at H
     have c4b0 : decide (0 ≤ x6_1) = true := decide_eq_true c4
     clear c4
     replace H := Option.bind_eq_some_iff.mp H
     obtain ⟨t591, A50, H⟩ := H
     replace H : (if (rd l0_0 x6_1) > t591 then (if x4_1 < 0 then (spec_l4Rows.l0 k1 x6_1 x6_1 (wrap64 (x6_1 + 1)) l0_0 l0_1) else (spec_l4Rows.l0 k1 x4_1 x6_1 (wrap64 (x6_1 + 1)) l0_0 l0_1)) else (spec_l4Rows.l0 k1 x4_1 x5_1 (wrap64 (x6_1 + 1)) l0_0 l0_1)) = some (r1, r2) := H
     have A5 := Aside0.mk A50
     clear A50
     by_cases c6 : (rd l0_0 x6_1) > t591
     ·rw [if_pos c6] at H
      have c6b0 : decide (t591 < (rd l0_0 x6_1)) = true := decide_eq_true c6
      clear c6
      by_cases c7 : x4_1 < 0
      ·rw [if_pos c7] at H
       have c7b0 : decide (x4_1 < 0) = true := decide_eq_true c7
       clear c7
       have H' := Aside0.mk H
       clear H
       have hcz8_0 : wr.cell? ⟨gb589, 0, none⟩ = some (.slice A0_0 l0_0.length c0_0) := (blk_cell BK589.out 0).trans rfl
       have hcz8_1 : wr.cell? ⟨gb589, 1, none⟩ = some (.slice A0_1 l0_1.length c0_1) := (blk_cell BK589.out 1).trans rfl
       have hfz8_0 := blk_frozen BK589.out 0
       have hfz8_1 := blk_frozen BK589.out 1
       have p590 : 0 ≤ (x6_1 : Int) := of_decide_eq_true asm
       have q590 : x6_1 < (l0_0.length : Int) := of_decide_eq_true asm
       obtain ⟨ad590, e590, hx590_0⟩ := Kd.at_int HR0_0.out x6_1 p590 q590
       cases e590
       (first | replace hx590_0 := (HB.out.cell (World.block_lt_of_cell? w _ hx590_0)).trans hx590_0 | skip)
       replace p590 := eq_true p590
       replace q590 := eq_true q590
       go_wp2_with (first | (go_at_call 44; (with_reducible refine (spec_l2At.calls _ _ l0_1 x6_1 t591 _ (cb HR0_1.out) HC0_1.out A5.out).mono ?_); rintro e w' ⟨rfl, ⟨nd, rfl⟩⟩; (try first | exact ⟨rfl, _, World.drewN_drewN _ _ _⟩ | exact ⟨rfl, _, Eq.trans (World.drewN_drewN _ _ _) (congrArg (World.drewN _) (Nat.add_assoc _ _ _))⟩)))
       repeat (go_quiet (first | (go_at_call 44; (with_reducible refine (spec_l2At.calls _ _ l0_1 x6_1 t591 _ (cb HR0_1.out) HC0_1.out A5.out).mono ?_); rintro e w' ⟨rfl, ⟨nd, rfl⟩⟩; (try first | exact ⟨rfl, _, World.drewN_drewN _ _ _⟩ | exact ⟨rfl, _, Eq.trans (World.drewN_drewN _ _ _) (congrArg (World.drewN _) (Nat.add_assoc _ _ _))⟩))); try go_wp2_with (first | (go_at_call 44; (with_reducible refine (spec_l2At.calls _ _ l0_1 x6_1 t591 _ (cb HR0_1.out) HC0_1.out A5.out).mono ?_); rintro e w' ⟨rfl, ⟨nd, rfl⟩⟩; (try first | exact ⟨rfl, _, World.drewN_drewN _ _ _⟩ | exact ⟨rfl, _, Eq.trans (World.drewN_drewN _ _ _) (congrArg (World.drewN _) (Nat.add_assoc _ _ _))⟩))))
       go_roundg k1
       case measure => have := HK1.out; omega
       case rel => exact ⟨(x6_1), (x6_1), (wrap64 (x6_1 + 1)), (by first | rfl | (simp; done) | (simp [*]; done)), (by first | rfl | (simp; done) | (simp [*]; done)), (by first | rfl | (simp; done) | (simp [*]; done)), H', ⟨by have := HK1.out; omega⟩, ⟨bk BK589.out⟩, ⟨bn HB.out⟩⟩
      ·rw [if_neg c7] at H
       have c7b0 : decide (x4_1 < 0) = false := decide_eq_false c7
       clear c7
       have H' := Aside0.mk H
       clear H
       have hcz9_0 : wr.cell? ⟨gb589, 0, none⟩ = some (.slice A0_0 l0_0.length c0_0) := (blk_cell BK589.out 0).trans rfl
       have hcz9_1 : wr.cell? ⟨gb589, 1, none⟩ = some (.slice A0_1 l0_1.length c0_1) := (blk_cell BK589.out 1).trans rfl
       have hfz9_0 := blk_frozen BK589.out 0
       have hfz9_1 := blk_frozen BK589.out 1
       have p590 : 0 ≤ (x6_1 : Int) := of_decide_eq_true asm
       have q590 : x6_1 < (l0_0.length : Int) := of_decide_eq_true asm
       obtain ⟨ad590, e590, hx590_0⟩ := Kd.at_int HR0_0.out x6_1 p590 q590
       cases e590
       (first | replace hx590_0 := (HB.out.cell (World.block_lt_of_cell? w _ hx590_0)).trans hx590_0 | skip)
       replace p590 := eq_true p590
       replace q590 := eq_true q590
       go_wp2_with (first | (go_at_call 44; (with_reducible refine (spec_l2At.calls _ _ l0_1 x6_1 t591 _ (cb HR0_1.out) HC0_1.out A5.out).mono ?_); rintro e w' ⟨rfl, ⟨nd, rfl⟩⟩; (try first | exact ⟨rfl, _, World.drewN_drewN _ _ _⟩ | exact ⟨rfl, _, Eq.trans (World.drewN_drewN _ _ _) (congrArg (World.drewN _) (Nat.add_assoc _ _ _))⟩)))
       repeat (go_quiet (first | (go_at_call 44; (with_reducible refine (spec_l2At.calls _ _ l0_1 x6_1 t591 _ (cb HR0_1.out) HC0_1.out A5.out).mono ?_); rintro e w' ⟨rfl, ⟨nd, rfl⟩⟩; (try first | exact ⟨rfl, _, World.drewN_drewN _ _ _⟩ | exact ⟨rfl, _, Eq.trans (World.drewN_drewN _ _ _) (congrArg (World.drewN _) (Nat.add_assoc _ _ _))⟩))); try go_wp2_with (first | (go_at_call 44; (with_reducible refine (spec_l2At.calls _ _ l0_1 x6_1 t591 _ (cb HR0_1.out) HC0_1.out A5.out).mono ?_); rintro e w' ⟨rfl, ⟨nd, rfl⟩⟩; (try first | exact ⟨rfl, _, World.drewN_drewN _ _ _⟩ | exact ⟨rfl, _, Eq.trans (World.drewN_drewN _ _ _) (congrArg (World.drewN _) (Nat.add_assoc _ _ _))⟩))))
       go_roundg k1
       case measure => have := HK1.out; omega
       case rel => exact ⟨(x4_1), (x6_1), (wrap64 (x6_1 + 1)), (by first | rfl | (simp; done) | (simp [*]; done)), (by first | rfl | (simp; done) | (simp [*]; done)), (by first | rfl | (simp; done) | (simp [*]; done)), H', ⟨by have := HK1.out; omega⟩, ⟨bk BK589.out⟩, ⟨bn HB.out⟩⟩
     ·rw [if_neg c6] at H
      have c6b0 : decide (t591 < (rd l0_0 x6_1)) = false := decide_eq_false c6
      clear c6
      have H' := Aside0.mk H
      clear H
      have hcz10_0 : wr.cell? ⟨gb589, 0, none⟩ = some (.slice A0_0 l0_0.length c0_0) := (blk_cell BK589.out 0).trans rfl
      have hcz10_1 : wr.cell? ⟨gb589, 1, none⟩ = some (.slice A0_1 l0_1.length c0_1) := (blk_cell BK589.out 1).trans rfl
      have hfz10_0 := blk_frozen BK589.out 0
      have hfz10_1 := blk_frozen BK589.out 1
      have p590 : 0 ≤ (x6_1 : Int) := of_decide_eq_true asm
      have q590 : x6_1 < (l0_0.length : Int) := of_decide_eq_true asm
      obtain ⟨ad590, e590, hx590_0⟩ := Kd.at_int HR0_0.out x6_1 p590 q590
      cases e590
      (first | replace hx590_0 := (HB.out.cell (World.block_lt_of_cell? w _ hx590_0)).trans hx590_0 | skip)
      replace p590 := eq_true p590
      replace q590 := eq_true q590
      go_wp2_with (first | (go_at_call 44; (with_reducible refine (spec_l2At.calls _ _ l0_1 x6_1 t591 _ (cb HR0_1.out) HC0_1.out A5.out).mono ?_); rintro e w' ⟨rfl, ⟨nd, rfl⟩⟩; (try first | exact ⟨rfl, _, World.drewN_drewN _ _ _⟩ | exact ⟨rfl, _, Eq.trans (World.drewN_drewN _ _ _) (congrArg (World.drewN _) (Nat.add_assoc _ _ _))⟩)))
      repeat (go_quiet (first | (go_at_call 44; (with_reducible refine (spec_l2At.calls _ _ l0_1 x6_1 t591 _ (cb HR0_1.out) HC0_1.out A5.out).mono ?_); rintro e w' ⟨rfl, ⟨nd, rfl⟩⟩; (try first | exact ⟨rfl, _, World.drewN_drewN _ _ _⟩ | exact ⟨rfl, _, Eq.trans (World.drewN_drewN _ _ _) (congrArg (World.drewN _) (Nat.add_assoc _ _ _))⟩))); try go_wp2_with (first | (go_at_call 44; (with_reducible refine (spec_l2At.calls _ _ l0_1 x6_1 t591 _ (cb HR0_1.out) HC0_1.out A5.out).mono ?_); rintro e w' ⟨rfl, ⟨nd, rfl⟩⟩; (try first | exact ⟨rfl, _, World.drewN_drewN _ _ _⟩ | exact ⟨rfl, _, Eq.trans (World.drewN_drewN _ _ _) (congrArg (World.drewN _) (Nat.add_assoc _ _ _))⟩))))
      go_roundg k1
      case measure => have := HK1.out; omega
      case rel => exact ⟨(x4_1), (x5_1), (wrap64 (x6_1 + 1)), (by first | rfl | (simp; done) | (simp [*]; done)), (by first | rfl | (simp; done) | (simp [*]; done)), (by first | rfl | (simp; done) | (simp [*]; done)), H', ⟨by have := HK1.out; omega⟩, ⟨bk BK589.out⟩, ⟨bn HB.out⟩⟩
    ·rw [if_neg c4] at H
     exact absurd H (by simp)
   ·rw [if_neg c3] at H
    have c3b0 : decide (x6_1 < (l0_0.length : Int)) = false := decide_eq_false c3
    clear c3
    simp only [Option.some.injEq, Prod.mk.injEq] at H
    obtain ⟨rfl, rfl⟩ := H
    have hcz11_0 : wr.cell? ⟨gb589, 0, none⟩ = some (.slice A0_0 l0_0.length c0_0) := (blk_cell BK589.out 0).trans rfl
    have hcz11_1 : wr.cell? ⟨gb589, 1, none⟩ = some (.slice A0_1 l0_1.length c0_1) := (blk_cell BK589.out 1).trans rfl
    have hfz11_0 := blk_frozen BK589.out 0
    have hfz11_1 := blk_frozen BK589.out 1
    go_wp2
    repeat (go_quiet (fail); try go_wp2)
    go_ret2
    exact ⟨by first | rfl | (simp [errW_none, errW_some] <;> rfl) | (simp [*, errW_none, errW_some] <;> rfl), bn HB.out⟩

/-! ### spec_IsRibbon: function 20 -/
mutual
def spec_IsRibbon.j0 : Nat → Int → Int → Bool → List Int → List Int → Option (Bool)
 | 0, _, _, _, _, _ => none
 | k + 1, x3, x4, x17, x593000, x593001 => if x17 = true then (some false) else (spec_IsRibbon.l0 k x4 (wrap64 (x3 + 1)) x593000 x593001)
def spec_IsRibbon.l0 : Nat → Int → Int → List Int → List Int → Option (Bool)
 | 0, _, _, _, _ => none
 | k + 1, x4, x5, x593000, x593001 => if x5 ≤ x4 then (if 0 ≤ x5 then (if x5 < (x593000.length : Int) then ((spec_l2At.f x593001 x5).bind fun t597 => (if (rd x593000 x5) ≤ t597 then (some false) else ((spec_l2At.f x593001 (wrap64 (x5 - 1))).bind fun t599 => (if (rd x593000 x5) = (wrap64 (t599 + 1)) then (spec_IsRibbon.l0 k x4 (wrap64 (x5 + 1)) x593000 x593001) else (some false))))) else (none)) else (none)) else (some true)
end
def spec_IsRibbon.f (k : Nat) (l0_0 : List Int) (l0_1 : List Int) : Option (Bool) := (spec_l4Rows.f k l0_0 l0_1).bind fun bt593 => ((spec_IsShape.f k l0_0 l0_1).bind fun t595 => (if t595 = true then (spec_IsRibbon.j0 k bt593.1 bt593.2 (decide (bt593.1 < 0)) l0_0 l0_1) else (spec_IsRibbon.j0 k bt593.1 bt593.2 true l0_0 l0_1)))
theorem spec_IsRibbon.mono_l : ∀ k, (∀ y0 y1 y2 y3 y4, LeO (spec_IsRibbon.j0 k y0 y1 y2 y3 y4) (spec_IsRibbon.j0 (k + 1) y0 y1 y2 y3 y4)) ∧ (∀ y0 y1 y2 y3, LeO (spec_IsRibbon.l0 k y0 y1 y2 y3) (spec_IsRibbon.l0 (k + 1) y0 y1 y2 y3))
 | 0 => ⟨fun _ _ _ _ _ r h => by simp [spec_IsRibbon.j0] at h, fun _ _ _ _ r h => by simp [spec_IsRibbon.l0] at h⟩
 | k + 1 => by
  obtain ⟨ih0, ih1⟩ := spec_IsRibbon.mono_l k
  refine ⟨?_, ?_⟩
  ·intro y0 y1 y2 y3 y4
   unfold spec_IsRibbon.j0
   repeat' first
   | (with_reducible exact ih0 _ _ _ _ _)
   | (with_reducible exact ih1 _ _ _ _)
   | (with_reducible exact spec_IsShape.mono _ _ _)
   | (with_reducible exact spec_l4Rows.mono _ _ _)
   | (with_reducible exact LeO.refl _)
   | (with_reducible exact LeO.none _)
   | (with_reducible refine LeO.ite ?_ ?_)
   | (with_reducible refine LeO.bind ?_ (fun _ => ?_))
   | exact ih0 _ _ _ _ _
   | exact ih1 _ _ _ _
   | exact spec_IsShape.mono _ _ _
   | exact spec_l4Rows.mono _ _ _
   | exact LeO.none _
   | refine LeO.ite ?_ ?_
   | refine LeO.bind ?_ (fun _ => ?_)
  ·intro y0 y1 y2 y3
   unfold spec_IsRibbon.l0
   repeat' first
   | (with_reducible exact ih0 _ _ _ _ _)
   | (with_reducible exact ih1 _ _ _ _)
   | (with_reducible exact spec_IsShape.mono _ _ _)
   | (with_reducible exact spec_l4Rows.mono _ _ _)
   | (with_reducible exact LeO.refl _)
   | (with_reducible exact LeO.none _)
   | (with_reducible refine LeO.ite ?_ ?_)
   | (with_reducible refine LeO.bind ?_ (fun _ => ?_))
   | exact ih0 _ _ _ _ _
   | exact ih1 _ _ _ _
   | exact spec_IsShape.mono _ _ _
   | exact spec_l4Rows.mono _ _ _
   | exact LeO.none _
   | refine LeO.ite ?_ ?_
   | refine LeO.bind ?_ (fun _ => ?_)
theorem spec_IsRibbon.mono : ∀ a0 a1 k, LeO (spec_IsRibbon.f k a0 a1) (spec_IsRibbon.f (k + 1) a0 a1) := by
 intro a0 a1 k
 obtain ⟨ih0, ih1⟩ := spec_IsRibbon.mono_l k
 unfold spec_IsRibbon.f
 repeat' first
   | (with_reducible exact ih0 _ _ _ _ _)
   | (with_reducible exact ih1 _ _ _ _)
   | (with_reducible exact spec_IsShape.mono _ _ _)
   | (with_reducible exact spec_l4Rows.mono _ _ _)
   | (with_reducible exact LeO.refl _)
   | (with_reducible exact LeO.none _)
   | (with_reducible refine LeO.ite ?_ ?_)
   | (with_reducible refine LeO.bind ?_ (fun _ => ?_))
   | exact ih0 _ _ _ _ _
   | exact ih1 _ _ _ _
   | exact spec_IsShape.mono _ _ _
   | exact spec_l4Rows.mono _ _ _
   | exact LeO.none _
   | refine LeO.ite ?_ ?_
   | refine LeO.bind ?_ (fun _ => ?_)
set_option maxHeartbeats 8000000 in
set_option maxRecDepth 100000 in
theorem spec_IsRibbon.calls (k : Nat) (A0_0 : Option Addr) (c0_0 : Nat) (l0_0 : List Int) (A0_1 : Option Addr) (c0_1 : Nat) (l0_1 : List Int) (r : Bool) (w : World) (hr0_0 : Kd.C (Kd.int .i64) w A0_0 l0_0.length l0_0) (hc0_0 : l0_0.length ≤ c0_0) (hr0_1 : Kd.C (Kd.int .i64) w A0_1 l0_1.length l0_1) (hc0_1 : l0_1.length ≤ c0_1) (h : spec_IsRibbon.f k l0_0 l0_1 = some r) :
  Calls Tryz.prog 20 #[.agg #[.slice A0_0 l0_0.length c0_0, .slice A0_1 l0_1.length c0_1]] w fun e w' => e = .returned (.bool r) ∧ Below w.heap.size w w' := by
 have hu26 := Tryz.underlying26
 have HR0_0 := Aside0.mk hr0_0
 have HC0_0 := Aside0.mk hc0_0
 clear hr0_0 hc0_0
 have HR0_1 := Aside0.mk hr0_1
 have HC0_1 := Aside0.mk hc0_1
 clear hr0_1 hc0_1
 have HB := Aside0.mk (Below.refl w.heap.size w)
 have H : ((spec_l4Rows.f k l0_0 l0_1).bind fun bt593 => ((spec_IsShape.f k l0_0 l0_1).bind fun t595 => (if t595 = true then (spec_IsRibbon.j0 k bt593.1 bt593.2 (decide (bt593.1 < 0)) l0_0 l0_1) else (spec_IsRibbon.j0 k bt593.1 bt593.2 true l0_0 l0_1)))) = some r := h
 clear h
 replace H := Option.bind_eq_some_iff.mp H
 obtain ⟨⟨t593, t594⟩, A20, H⟩ := H
 replace H : ((spec_IsShape.f k l0_0 l0_1).bind fun t595 => (if t595 = true then (spec_IsRibbon.j0 k t593 t594 (decide (t593 < 0)) l0_0 l0_1) else (spec_IsRibbon.j0 k t593 t594 true l0_0 l0_1))) = some r := H
 have A2 := Aside0.mk A20
 clear A20
 have HC3 := Aside0.mk H
 clear H
 go_enter Tryz.func20, Tryz.ntmps20
 go_upto_region 2 with (first | (refine boxE 1 #[.slice A0_0 l0_0.length c0_0, .slice A0_1 l0_1.length c0_1] 26 rfl ?_; intro gb592 hg w4 hbox hb; have BK592 := Aside0.mk (hbox); have GW592 := Aside0.mk ((by rw [hg]; exact (below_size bnow) : w.heap.size ≤ gb592)); have GE592 := Aside0.mk ((by rw [hg]; exact (below_size bnow) : w.heap.size ≤ gb592)); replace HB := Aside0.mk (below_step bnow hb); clear hb hbox hg; have hcz5_0 : w4.cell? ⟨gb592, 0, none⟩ = some (.slice A0_0 l0_0.length c0_0) := (blk_cell BK592.out 0).trans rfl; have hcz5_1 : w4.cell? ⟨gb592, 1, none⟩ = some (.slice A0_1 l0_1.length c0_1) := (blk_cell BK592.out 1).trans rfl; have hfz5_0 := blk_frozen BK592.out 0; have hfz5_1 := blk_frozen BK592.out 1) | (go_at_call 46; (with_reducible refine (spec_l4Rows.calls k _ _ l0_0 _ _ l0_1 t593 t594 _ (cb HR0_0.out) HC0_0.out (cb HR0_1.out) HC0_1.out A2.out).mono ?_); rintro e w6 ⟨rfl, hb⟩; replace BK592 := Aside0.mk (blk_below (bk BK592.out) hb); replace HB := Aside0.mk (below_step (bn HB.out) hb); (try clear hb); (try clear hb2); (try clear hk); (try clear hi)))
 repeat (go_quiet (first | (refine boxE 1 #[.slice A0_0 l0_0.length c0_0, .slice A0_1 l0_1.length c0_1] 26 rfl ?_; intro gb592 hg w4 hbox hb; have BK592 := Aside0.mk (hbox); have GW592 := Aside0.mk ((by rw [hg]; exact (below_size bnow) : w.heap.size ≤ gb592)); have GE592 := Aside0.mk ((by rw [hg]; exact (below_size bnow) : w.heap.size ≤ gb592)); replace HB := Aside0.mk (below_step bnow hb); clear hb hbox hg; have hcz5_0 : w4.cell? ⟨gb592, 0, none⟩ = some (.slice A0_0 l0_0.length c0_0) := (blk_cell BK592.out 0).trans rfl; have hcz5_1 : w4.cell? ⟨gb592, 1, none⟩ = some (.slice A0_1 l0_1.length c0_1) := (blk_cell BK592.out 1).trans rfl; have hfz5_0 := blk_frozen BK592.out 0; have hfz5_1 := blk_frozen BK592.out 1) | (go_at_call 46; (with_reducible refine (spec_l4Rows.calls k _ _ l0_0 _ _ l0_1 t593 t594 _ (cb HR0_0.out) HC0_0.out (cb HR0_1.out) HC0_1.out A2.out).mono ?_); rintro e w6 ⟨rfl, hb⟩; replace BK592 := Aside0.mk (blk_below (bk BK592.out) hb); replace HB := Aside0.mk (below_step (bn HB.out) hb); (try clear hb); (try clear hb2); (try clear hk); (try clear hi))); go_upto_region 2 with (first | (refine boxE 1 #[.slice A0_0 l0_0.length c0_0, .slice A0_1 l0_1.length c0_1] 26 rfl ?_; intro gb592 hg w4 hbox hb; have BK592 := Aside0.mk (hbox); have GW592 := Aside0.mk ((by rw [hg]; exact (below_size bnow) : w.heap.size ≤ gb592)); have GE592 := Aside0.mk ((by rw [hg]; exact (below_size bnow) : w.heap.size ≤ gb592)); replace HB := Aside0.mk (below_step bnow hb); clear hb hbox hg; have hcz5_0 : w4.cell? ⟨gb592, 0, none⟩ = some (.slice A0_0 l0_0.length c0_0) := (blk_cell BK592.out 0).trans rfl; have hcz5_1 : w4.cell? ⟨gb592, 1, none⟩ = some (.slice A0_1 l0_1.length c0_1) := (blk_cell BK592.out 1).trans rfl; have hfz5_0 := blk_frozen BK592.out 0; have hfz5_1 := blk_frozen BK592.out 1) | (go_at_call 46; (with_reducible refine (spec_l4Rows.calls k _ _ l0_0 _ _ l0_1 t593 t594 _ (cb HR0_0.out) HC0_0.out (cb HR0_1.out) HC0_1.out A2.out).mono ?_); rintro e w6 ⟨rfl, hb⟩; replace BK592 := Aside0.mk (blk_below (bk BK592.out) hb); replace HB := Aside0.mk (below_step (bn HB.out) hb); (try clear hb); (try clear hb2); (try clear hk); (try clear hi))))
 (try simp only [Act.put, List.setIfInBounds_toArray, List.set_cons_zero, List.set_cons_succ])
 go_cut [17] (fun v17 wc => ∃ (kq : Nat) (x17_2 : Bool), v17 = .bool x17_2 ∧ Aside0 (spec_IsRibbon.j0 kq t593 t594 x17_2 l0_0 l0_1 = some r) ∧ Aside0 (kq ≤ k) ∧ Aside0 (wc.heap[gb592]? = some (.cells #[(.slice A0_0 l0_0.length c0_0), (.slice A0_1 l0_1.length c0_1)] 26 (0, 0))) ∧ Aside0 (Below w.heap.size w wc))
 case first =>
  have H := HC3.out
  clear HC3
  replace H := Option.bind_eq_some_iff.mp H
  obtain ⟨t595, A70, H⟩ := H
  replace H : (if t595 = true then (spec_IsRibbon.j0 k t593 t594 (decide (t593 < 0)) l0_0 l0_1) else (spec_IsRibbon.j0 k t593 t594 true l0_0 l0_1)) = some r := H
  have A7 := Aside0.mk A70
  clear A70
  by_cases c8 : t595 = true
  ·subst c8
   have H1 : (spec_IsRibbon.j0 k t593 t594 (decide (t593 < 0)) l0_0 l0_1) = some r := by rw [if_pos rfl] at H; exact H
   clear H
   have H := H1
   clear H1
   have H' := Aside0.mk H
   clear H
   have hcz9_0 : w6.cell? ⟨gb592, 0, none⟩ = some (.slice A0_0 l0_0.length c0_0) := (blk_cell BK592.out 0).trans rfl
   have hcz9_1 : w6.cell? ⟨gb592, 1, none⟩ = some (.slice A0_1 l0_1.length c0_1) := (blk_cell BK592.out 1).trans rfl
   have hfz9_0 := blk_frozen BK592.out 0
   have hfz9_1 := blk_frozen BK592.out 1
   go_wp2_with (first | (go_at_call 25; (with_reducible refine (spec_IsShape.calls k _ _ l0_0 _ _ l0_1 true _ (cb HR0_0.out) HC0_0.out (cb HR0_1.out) HC0_1.out A7.out).mono ?_); rintro e w10 ⟨rfl, hb⟩; replace BK592 := Aside0.mk (blk_below (bk BK592.out) hb); replace HB := Aside0.mk (below_step (bn HB.out) hb); (try clear hb); (try clear hb2); (try clear hk); (try clear hi)))
   repeat (go_quiet (first | (go_at_call 25; (with_reducible refine (spec_IsShape.calls k _ _ l0_0 _ _ l0_1 true _ (cb HR0_0.out) HC0_0.out (cb HR0_1.out) HC0_1.out A7.out).mono ?_); rintro e w10 ⟨rfl, hb⟩; replace BK592 := Aside0.mk (blk_below (bk BK592.out) hb); replace HB := Aside0.mk (below_step (bn HB.out) hb); (try clear hb); (try clear hb2); (try clear hk); (try clear hi))); try go_wp2_with (first | (go_at_call 25; (with_reducible refine (spec_IsShape.calls k _ _ l0_0 _ _ l0_1 true _ (cb HR0_0.out) HC0_0.out (cb HR0_1.out) HC0_1.out A7.out).mono ?_); rintro e w10 ⟨rfl, hb⟩; replace BK592 := Aside0.mk (blk_below (bk BK592.out) hb); replace HB := Aside0.mk (below_step (bn HB.out) hb); (try clear hb); (try clear hb2); (try clear hk); (try clear hi))))
   go_meet
   case rel => exact ⟨_, (decide (t593 < 0)), (by first | rfl | (simp; done) | (simp [*]; done)), H', ⟨by first | omega | exact Nat.le_refl _⟩, ⟨bk BK592.out⟩, ⟨bn HB.out⟩⟩
  ·replace c8 := Bool.eq_false_iff.mpr c8
   subst c8
   have H1 : (spec_IsRibbon.j0 k t593 t594 true l0_0 l0_1) = some r := by rw [if_neg (show ¬ (false = true) by decide)] at H; exact H
   clear H
   have H := H1
   clear H1
   have H' := Aside0.mk H
   clear H
   have hcz11_0 : w6.cell? ⟨gb592, 0, none⟩ = some (.slice A0_0 l0_0.length c0_0) := (blk_cell BK592.out 0).trans rfl
   have hcz11_1 : w6.cell? ⟨gb592, 1, none⟩ = some (.slice A0_1 l0_1.length c0_1) := (blk_cell BK592.out 1).trans rfl
   have hfz11_0 := blk_frozen BK592.out 0
   have hfz11_1 := blk_frozen BK592.out 1
   go_wp2_with (first | (go_at_call 25; (with_reducible refine (spec_IsShape.calls k _ _ l0_0 _ _ l0_1 false _ (cb HR0_0.out) HC0_0.out (cb HR0_1.out) HC0_1.out A7.out).mono ?_); rintro e w12 ⟨rfl, hb⟩; replace BK592 := Aside0.mk (blk_below (bk BK592.out) hb); replace HB := Aside0.mk (below_step (bn HB.out) hb); (try clear hb); (try clear hb2); (try clear hk); (try clear hi)))
   repeat (go_quiet (first | (go_at_call 25; (with_reducible refine (spec_IsShape.calls k _ _ l0_0 _ _ l0_1 false _ (cb HR0_0.out) HC0_0.out (cb HR0_1.out) HC0_1.out A7.out).mono ?_); rintro e w12 ⟨rfl, hb⟩; replace BK592 := Aside0.mk (blk_below (bk BK592.out) hb); replace HB := Aside0.mk (below_step (bn HB.out) hb); (try clear hb); (try clear hb2); (try clear hk); (try clear hi))); try go_wp2_with (first | (go_at_call 25; (with_reducible refine (spec_IsShape.calls k _ _ l0_0 _ _ l0_1 false _ (cb HR0_0.out) HC0_0.out (cb HR0_1.out) HC0_1.out A7.out).mono ?_); rintro e w12 ⟨rfl, hb⟩; replace BK592 := Aside0.mk (blk_below (bk BK592.out) hb); replace HB := Aside0.mk (below_step (bn HB.out) hb); (try clear hb); (try clear hb2); (try clear hk); (try clear hi))))
   go_meet
   case rel => exact ⟨_, (true), (by first | rfl | (simp; done) | (simp [*]; done)), H', ⟨by first | omega | exact Nat.le_refl _⟩, ⟨bk BK592.out⟩, ⟨bn HB.out⟩⟩
 case rest =>
  clear HC3
  try clear c2
  try clear p2
  try clear c8
  try clear hcz11_0
  try clear hcz11_1
  try clear hcz5_0
  try clear hcz5_1
  try clear hcz9_0
  try clear hcz9_1
  try clear hfz11_0
  try clear hfz11_1
  try clear hfz5_0
  try clear hfz5_1
  try clear hfz9_0
  try clear hfz9_1
  obtain ⟨kq, x17_2, rfl, HA, HJ2, BK592, HB⟩ := hcut
  cases kq with
  | zero => exact absurd HA.out (by simp [spec_IsRibbon.j0])
  | succ kj2 =>
   have H := HA.out
   clear HA
   simp only [spec_IsRibbon.j0] at H
   by_cases c13 : x17_2 = true
   ·subst c13
    have H1 : (some false) = some r := by rw [if_pos rfl] at H; exact H
    clear H
    have H := H1
    clear H1
    obtain rfl := Option.some.inj H
    go_wp2
    repeat (go_quiet (fail); try go_wp2)
    go_ret
    exact ⟨by first | rfl | (simp [errW_none, errW_some] <;> rfl) | (simp [*, errW_none, errW_some] <;> rfl), bn HB.out⟩
   ·replace c13 := Bool.eq_false_iff.mpr c13
    subst c13
    have H1 : (spec_IsRibbon.l0 kj2 t594 (wrap64 (t593 + 1)) l0_0 l0_1) = some r := by rw [if_neg (show ¬ (false = true) by decide)] at H; exact H
    clear H
    have H := H1
    clear H1
    have H' := Aside0.mk H
    clear H
    go_wp2
    repeat (go_quiet (fail); try go_wp2)
    go_loopg [5] kj2 (fun kq v5 w' => ∃ (x5_2 : Int), v5 = .int .i64 x5_2 ∧ Aside0 (spec_IsRibbon.l0 kq t594 x5_2 l0_0 l0_1 = some r) ∧ Aside0 (kq ≤ kj2) ∧ Aside0 (w'.heap[gb592]? = some (.cells #[(.slice A0_0 l0_0.length c0_0), (.slice A0_1 l0_1.length c0_1)] 26 (0, 0))) ∧ Aside0 (Below w.heap.size w w'))
    case atStart => exact ⟨(wrap64 (t593 + 1)), (by first | rfl | (simp; done) | (simp [*]; done)), H', ⟨Nat.le_refl _⟩, ⟨bk BK592.out⟩, ⟨bn HB.out⟩⟩
    case round =>
     clear H'
     try clear c1
     try clear c2
     try clear p2
     try clear p6
     try clear c8
     try clear c13
     try clear hcz11_0
     try clear hcz11_1
     try clear hcz5_0
     try clear hcz5_1
     try clear hcz9_0
     try clear hcz9_1
     try clear hfz11_0
     try clear hfz11_1
     try clear hfz5_0
     try clear hfz5_1
     try clear hfz9_0
     try clear hfz9_1
     try clear p2
     obtain ⟨x5_2, rfl, HA, HK2, BK592, HB⟩ := hrel
     cases gk with
     | zero => exact absurd HA.out (by simp [spec_IsRibbon.l0])
     | succ k2 =>
      have H := HA.out
      clear HA
      simp only [spec_IsRibbon.l0] at H
      by_cases c14 : x5_2 ≤ t594
      ·rw [if_pos c14] at H
       have c14b0 : decide (x5_2 ≤ t594) = true := decide_eq_true c14
       clear c14
       by_cases c15 : 0 ≤ x5_2
       ·rw [if_pos c15] at H
        have c15b0 : decide (0 ≤ x5_2) = true := decide_eq_true c15
        clear c15
        by_cases c16 : x5_2 < (l0_0.length : Int)
        ·rw [if_pos c16] at H
         have c16b0 : decide (x5_2 < (l0_0.length : Int)) = true := decide_eq_true c16
         clear c16
         replace H := Option.bind_eq_some_iff.mp H
         obtain ⟨t597, A170, H⟩ := H
         replace H : (if (rd l0_0 x5_2) ≤ t597 then (some false) else ((spec_l2At.f l0_1 (wrap64 (x5_2 - 1))).bind fun t599 => (if (rd l0_0 x5_2) = (wrap64 (t599 + 1)) then (spec_IsRibbon.l0 k2 t594 (wrap64 (x5_2 + 1)) l0_0 l0_1) else (some false)))) = some r := H
         have A17 := Aside0.mk A170
         clear A170
         by_cases c18 : (rd l0_0 x5_2) ≤ t597
         ·rw [if_pos c18] at H
          have c18b0 : decide ((rd l0_0 x5_2) ≤ t597) = true := decide_eq_true c18
          clear c18
          obtain rfl := Option.some.inj H
          have hcz19_0 : wr.cell? ⟨gb592, 0, none⟩ = some (.slice A0_0 l0_0.length c0_0) := (blk_cell BK592.out 0).trans rfl
          have hcz19_1 : wr.cell? ⟨gb592, 1, none⟩ = some (.slice A0_1 l0_1.length c0_1) := (blk_cell BK592.out 1).trans rfl
          have hfz19_0 := blk_frozen BK592.out 0
          have hfz19_1 := blk_frozen BK592.out 1
          have p596 : 0 ≤ (x5_2 : Int) := of_decide_eq_true asm
          have q596 : x5_2 < (l0_0.length : Int) := of_decide_eq_true asm
          obtain ⟨ad596, e596, hx596_0⟩ := Kd.at_int HR0_0.out x5_2 p596 q596
          cases e596
          (first | replace hx596_0 := (HB.out.cell (World.block_lt_of_cell? w _ hx596_0)).trans hx596_0 | skip)
          replace p596 := eq_true p596
          replace q596 := eq_true q596
          go_wp2_with (first | (go_at_call 44; (with_reducible refine (spec_l2At.calls _ _ l0_1 x5_2 t597 _ (cb HR0_1.out) HC0_1.out A17.out).mono ?_); rintro e w' ⟨rfl, ⟨nd, rfl⟩⟩; (try first | exact ⟨rfl, _, World.drewN_drewN _ _ _⟩ | exact ⟨rfl, _, Eq.trans (World.drewN_drewN _ _ _) (congrArg (World.drewN _) (Nat.add_assoc _ _ _))⟩)))
          repeat (go_quiet (first | (go_at_call 44; (with_reducible refine (spec_l2At.calls _ _ l0_1 x5_2 t597 _ (cb HR0_1.out) HC0_1.out A17.out).mono ?_); rintro e w' ⟨rfl, ⟨nd, rfl⟩⟩; (try first | exact ⟨rfl, _, World.drewN_drewN _ _ _⟩ | exact ⟨rfl, _, Eq.trans (World.drewN_drewN _ _ _) (congrArg (World.drewN _) (Nat.add_assoc _ _ _))⟩))); try go_wp2_with (first | (go_at_call 44; (with_reducible refine (spec_l2At.calls _ _ l0_1 x5_2 t597 _ (cb HR0_1.out) HC0_1.out A17.out).mono ?_); rintro e w' ⟨rfl, ⟨nd, rfl⟩⟩; (try first | exact ⟨rfl, _, World.drewN_drewN _ _ _⟩ | exact ⟨rfl, _, Eq.trans (World.drewN_drewN _ _ _) (congrArg (World.drewN _) (Nat.add_assoc _ _ _))⟩))))
          go_ret
          exact ⟨by first | rfl | (simp [errW_none, errW_some] <;> rfl) | (simp [*, errW_none, errW_some] <;> rfl), bn HB.out⟩
         ·rw [if_neg c18] at H
          have c18b0 : decide ((rd l0_0 x5_2) ≤ t597) = false := decide_eq_false c18
          clear c18
          replace H := Option.bind_eq_some_iff.mp H
          obtain ⟨t599, A200, H⟩ := H
          replace H : (if (rd l0_0 x5_2) = (wrap64 (t599 + 1)) then (spec_IsRibbon.l0 k2 t594 (wrap64 (x5_2 + 1)) l0_0 l0_1) else (some false)) = some r := H
          have A20 := Aside0.mk A200
          clear A200
          by_cases c21 : (rd l0_0 x5_2) = (wrap64 (t599 + 1))
          ·rw [if_pos c21] at H
           have c21b0 : ((rd l0_0 x5_2) == (wrap64 (t599 + 1))) = true := beq_iff_eq.mpr c21
           have c21b0w : ((rd l0_0 x5_2) == (IntKind.i64.wrap (t599 + 1))) = true := by rw [i64_w]; exact c21b0
           have c21b1 : ((rd l0_0 x5_2) != (wrap64 (t599 + 1))) = false := bne_eq_false_iff_eq.mpr c21
           have c21b1w : ((rd l0_0 x5_2) != (IntKind.i64.wrap (t599 + 1))) = false := by rw [i64_w]; exact c21b1
           clear c21
           have H' := Aside0.mk H
           clear H
           have hcz22_0 : wr.cell? ⟨gb592, 0, none⟩ = some (.slice A0_0 l0_0.length c0_0) := (blk_cell BK592.out 0).trans rfl
           have hcz22_1 : wr.cell? ⟨gb592, 1, none⟩ = some (.slice A0_1 l0_1.length c0_1) := (blk_cell BK592.out 1).trans rfl
           have hfz22_0 := blk_frozen BK592.out 0
           have hfz22_1 := blk_frozen BK592.out 1
           have p596 : 0 ≤ (x5_2 : Int) := of_decide_eq_true asm
           have q596 : x5_2 < (l0_0.length : Int) := of_decide_eq_true asm
           obtain ⟨ad596, e596, hx596_0⟩ := Kd.at_int HR0_0.out x5_2 p596 q596
           cases e596
           (first | replace hx596_0 := (HB.out.cell (World.block_lt_of_cell? w _ hx596_0)).trans hx596_0 | skip)
           replace p596 := eq_true p596
           replace q596 := eq_true q596
           go_wp2_with (first | (go_at_call 44; (with_reducible refine (spec_l2At.calls _ _ l0_1 x5_2 t597 _ (cb HR0_1.out) HC0_1.out A17.out).mono ?_); rintro e w' ⟨rfl, ⟨nd, rfl⟩⟩; (try first | exact ⟨rfl, _, World.drewN_drewN _ _ _⟩ | exact ⟨rfl, _, Eq.trans (World.drewN_drewN _ _ _) (congrArg (World.drewN _) (Nat.add_assoc _ _ _))⟩); have p598 : 0 ≤ (x5_2 : Int) := of_decide_eq_true asm; have q598 : x5_2 < (l0_0.length : Int) := of_decide_eq_true asm; obtain ⟨ad598, e598, hx598_0⟩ := Kd.at_int HR0_0.out x5_2 p598 q598; obtain rfl : ad596 = ad598 := (by injection e598); (first | replace hx598_0 := (HB.out.cell (World.block_lt_of_cell? w _ hx598_0)).trans hx598_0 | skip); replace p598 := eq_true p598; replace q598 := eq_true q598) | (go_at_call 44; (with_reducible refine (spec_l2At.calls _ _ l0_1 (wrap64 (x5_2 - 1)) t599 _ ?side1 ?side2 A20.out).mono ?_); (case side1 => repeat (first | exact (Kd.C_below HR0_1.out (bn HB.out)) | (with_reducible refine Kd.C_alloc ?_ _) | (with_reducible refine Kd.C_drewN ?_ _) | (with_reducible refine Kd.C_drew ?_))); (case side2 => exact HC0_1.out); rintro e w' ⟨rfl, ⟨nd, rfl⟩⟩; (try first | exact ⟨rfl, _, World.drewN_drewN _ _ _⟩ | exact ⟨rfl, _, Eq.trans (World.drewN_drewN _ _ _) (congrArg (World.drewN _) (Nat.add_assoc _ _ _))⟩)) | (go_at_call 44; (with_reducible refine (spec_l2At.calls _ _ l0_1 (IntKind.i64.wrap (x5_2 - 1)) t599 _ ?side1 ?side2 (by simpa only [i64_w] using A20.out)).mono ?_); (case side1 => repeat (first | exact (Kd.C_below HR0_1.out (bn HB.out)) | (with_reducible refine Kd.C_alloc ?_ _) | (with_reducible refine Kd.C_drewN ?_ _) | (with_reducible refine Kd.C_drew ?_))); (case side2 => exact HC0_1.out); rintro e w' ⟨rfl, ⟨nd, rfl⟩⟩; (try first | exact ⟨rfl, _, World.drewN_drewN _ _ _⟩ | exact ⟨rfl, _, Eq.trans (World.drewN_drewN _ _ _) (congrArg (World.drewN _) (Nat.add_assoc _ _ _))⟩)))
           repeat (go_quiet (first | (go_at_call 44; (with_reducible refine (spec_l2At.calls _ _ l0_1 x5_2 t597 _ (cb HR0_1.out) HC0_1.out A17.out).mono ?_); rintro e w' ⟨rfl, ⟨nd, rfl⟩⟩; (try first | exact ⟨rfl, _, World.drewN_drewN _ _ _⟩ | exact ⟨rfl, _, Eq.trans (World.drewN_drewN _ _ _) (congrArg (World.drewN _) (Nat.add_assoc _ _ _))⟩); have p598 : 0 ≤ (x5_2 : Int) := of_decide_eq_true asm; have q598 : x5_2 < (l0_0.length : Int) := of_decide_eq_true asm; obtain ⟨ad598, e598, hx598_0⟩ := Kd.at_int HR0_0.out x5_2 p598 q598; obtain rfl : ad596 = ad598 := (by injection e598); (first | replace hx598_0 := (HB.out.cell (World.block_lt_of_cell? w _ hx598_0)).trans hx598_0 | skip); replace p598 := eq_true p598; replace q598 := eq_true q598) | (go_at_call 44; (with_reducible refine (spec_l2At.calls _ _ l0_1 (wrap64 (x5_2 - 1)) t599 _ ?side1 ?side2 A20.out).mono ?_); (case side1 => repeat (first | exact (Kd.C_below HR0_1.out (bn HB.out)) | (with_reducible refine Kd.C_alloc ?_ _) | (with_reducible refine Kd.C_drewN ?_ _) | (with_reducible refine Kd.C_drew ?_))); (case side2 => exact HC0_1.out); rintro e w' ⟨rfl, ⟨nd, rfl⟩⟩; (try first | exact ⟨rfl, _, World.drewN_drewN _ _ _⟩ | exact ⟨rfl, _, Eq.trans (World.drewN_drewN _ _ _) (congrArg (World.drewN _) (Nat.add_assoc _ _ _))⟩)) | (go_at_call 44; (with_reducible refine (spec_l2At.calls _ _ l0_1 (IntKind.i64.wrap (x5_2 - 1)) t599 _ ?side1 ?side2 (by simpa only [i64_w] using A20.out)).mono ?_); (case side1 => repeat (first | exact (Kd.C_below HR0_1.out (bn HB.out)) | (with_reducible refine Kd.C_alloc ?_ _) | (with_reducible refine Kd.C_drewN ?_ _) | (with_reducible refine Kd.C_drew ?_))); (case side2 => exact HC0_1.out); rintro e w' ⟨rfl, ⟨nd, rfl⟩⟩; (try first | exact ⟨rfl, _, World.drewN_drewN _ _ _⟩ | exact ⟨rfl, _, Eq.trans (World.drewN_drewN _ _ _) (congrArg (World.drewN _) (Nat.add_assoc _ _ _))⟩))); try go_wp2_with (first | (go_at_call 44; (with_reducible refine (spec_l2At.calls _ _ l0_1 x5_2 t597 _ (cb HR0_1.out) HC0_1.out A17.out).mono ?_); rintro e w' ⟨rfl, ⟨nd, rfl⟩⟩; (try first | exact ⟨rfl, _, World.drewN_drewN _ _ _⟩ | exact ⟨rfl, _, Eq.trans (World.drewN_drewN _ _ _) (congrArg (World.drewN _) (Nat.add_assoc _ _ _))⟩); have p598 : 0 ≤ (x5_2 : Int) := of_decide_eq_true asm; have q598 : x5_2 < (l0_0.length : Int) := of_decide_eq_true asm; obtain ⟨ad598, e598, hx598_0⟩ := Kd.at_int HR0_0.out x5_2 p598 q598; obtain rfl : ad596 = ad598 := (by injection e598); (first | replace hx598_0 := (HB.out.cell (World.block_lt_of_cell? w _ hx598_0)).trans hx598_0 | skip); replace p598 := eq_true p598; replace q598 := eq_true q598) | (go_at_call 44; (with_reducible refine (spec_l2At.calls _ _ l0_1 (wrap64 (x5_2 - 1)) t599 _ ?side1 ?side2 A20.out).mono ?_); (case side1 => repeat (first | exact (Kd.C_below HR0_1.out (bn HB.out)) | (with_reducible refine Kd.C_alloc ?_ _) | (with_reducible refine Kd.C_drewN ?_ _) | (with_reducible refine Kd.C_drew ?_))); (case side2 => exact HC0_1.out); rintro e w' ⟨rfl, ⟨nd, rfl⟩⟩; (try first | exact ⟨rfl, _, World.drewN_drewN _ _ _⟩ | exact ⟨rfl, _, Eq.trans (World.drewN_drewN _ _ _) (congrArg (World.drewN _) (Nat.add_assoc _ _ _))⟩)) | (go_at_call 44; (with_reducible refine (spec_l2At.calls _ _ l0_1 (IntKind.i64.wrap (x5_2 - 1)) t599 _ ?side1 ?side2 (by simpa only [i64_w] using A20.out)).mono ?_); (case side1 => repeat (first | exact (Kd.C_below HR0_1.out (bn HB.out)) | (with_reducible refine Kd.C_alloc ?_ _) | (with_reducible refine Kd.C_drewN ?_ _) | (with_reducible refine Kd.C_drew ?_))); (case side2 => exact HC0_1.out); rintro e w' ⟨rfl, ⟨nd, rfl⟩⟩; (try first | exact ⟨rfl, _, World.drewN_drewN _ _ _⟩ | exact ⟨rfl, _, Eq.trans (World.drewN_drewN _ _ _) (congrArg (World.drewN _) (Nat.add_assoc _ _ _))⟩))))
           go_roundg k2
           case measure => have := HJ2.out; have := HK2.out; omega
           case rel => exact ⟨(wrap64 (x5_2 + 1)), (by first | rfl | (simp; done) | (simp [*]; done)), H', ⟨by have := HJ2.out; have := HK2.out; omega⟩, ⟨bk BK592.out⟩, ⟨bn HB.out⟩⟩
          ·rw [if_neg c21] at H
           have c21b0 : ((rd l0_0 x5_2) == (wrap64 (t599 + 1))) = false := beq_eq_false_iff_ne.mpr c21
           have c21b0w : ((rd l0_0 x5_2) == (IntKind.i64.wrap (t599 + 1))) = false := by rw [i64_w]; exact c21b0
           have c21b1 : ((rd l0_0 x5_2) != (wrap64 (t599 + 1))) = true := bne_iff_ne.mpr c21
           have c21b1w : ((rd l0_0 x5_2) != (IntKind.i64.wrap (t599 + 1))) = true := by rw [i64_w]; exact c21b1
           obtain rfl := Option.some.inj H
           have hcz23_0 : wr.cell? ⟨gb592, 0, none⟩ = some (.slice A0_0 l0_0.length c0_0) := (blk_cell BK592.out 0).trans rfl
           have hcz23_1 : wr.cell? ⟨gb592, 1, none⟩ = some (.slice A0_1 l0_1.length c0_1) := (blk_cell BK592.out 1).trans rfl
           have hfz23_0 := blk_frozen BK592.out 0
           have hfz23_1 := blk_frozen BK592.out 1
           have p596 : 0 ≤ (x5_2 : Int) := of_decide_eq_true asm
           have q596 : x5_2 < (l0_0.length : Int) := of_decide_eq_true asm
           obtain ⟨ad596, e596, hx596_0⟩ := Kd.at_int HR0_0.out x5_2 p596 q596
           cases e596
           (first | replace hx596_0 := (HB.out.cell (World.block_lt_of_cell? w _ hx596_0)).trans hx596_0 | skip)
           replace p596 := eq_true p596
           replace q596 := eq_true q596
           go_wp2_with (first | (go_at_call 44; (with_reducible refine (spec_l2At.calls _ _ l0_1 x5_2 t597 _ (cb HR0_1.out) HC0_1.out A17.out).mono ?_); rintro e w' ⟨rfl, ⟨nd, rfl⟩⟩; (try first | exact ⟨rfl, _, World.drewN_drewN _ _ _⟩ | exact ⟨rfl, _, Eq.trans (World.drewN_drewN _ _ _) (congrArg (World.drewN _) (Nat.add_assoc _ _ _))⟩); have p598 : 0 ≤ (x5_2 : Int) := of_decide_eq_true asm; have q598 : x5_2 < (l0_0.length : Int) := of_decide_eq_true asm; obtain ⟨ad598, e598, hx598_0⟩ := Kd.at_int HR0_0.out x5_2 p598 q598; obtain rfl : ad596 = ad598 := (by injection e598); (first | replace hx598_0 := (HB.out.cell (World.block_lt_of_cell? w _ hx598_0)).trans hx598_0 | skip); replace p598 := eq_true p598; replace q598 := eq_true q598) | (go_at_call 44; (with_reducible refine (spec_l2At.calls _ _ l0_1 (wrap64 (x5_2 - 1)) t599 _ ?side1 ?side2 A20.out).mono ?_); (case side1 => repeat (first | exact (Kd.C_below HR0_1.out (bn HB.out)) | (with_reducible refine Kd.C_alloc ?_ _) | (with_reducible refine Kd.C_drewN ?_ _) | (with_reducible refine Kd.C_drew ?_))); (case side2 => exact HC0_1.out); rintro e w' ⟨rfl, ⟨nd, rfl⟩⟩; (try first | exact ⟨rfl, _, World.drewN_drewN _ _ _⟩ | exact ⟨rfl, _, Eq.trans (World.drewN_drewN _ _ _) (congrArg (World.drewN _) (Nat.add_assoc _ _ _))⟩)) | (go_at_call 44; (with_reducible refine (spec_l2At.calls _ _ l0_1 (IntKind.i64.wrap (x5_2 - 1)) t599 _ ?side1 ?side2 (by simpa only [i64_w] using A20.out)).mono ?_); (case side1 => repeat (first | exact (Kd.C_below HR0_1.out (bn HB.out)) | (with_reducible refine Kd.C_alloc ?_ _) | (with_reducible refine Kd.C_drewN ?_ _) | (with_reducible refine Kd.C_drew ?_))); (case side2 => exact HC0_1.out); rintro e w' ⟨rfl, ⟨nd, rfl⟩⟩; (try first | exact ⟨rfl, _, World.drewN_drewN _ _ _⟩ | exact ⟨rfl, _, Eq.trans (World.drewN_drewN _ _ _) (congrArg (World.drewN _) (Nat.add_assoc _ _ _))⟩)))
           repeat (go_quiet (first | (go_at_call 44; (with_reducible refine (spec_l2At.calls _ _ l0_1 x5_2 t597 _ (cb HR0_1.out) HC0_1.out A17.out).mono ?_); rintro e w' ⟨rfl, ⟨nd, rfl⟩⟩; (try first | exact ⟨rfl, _, World.drewN_drewN _ _ _⟩ | exact ⟨rfl, _, Eq.trans (World.drewN_drewN _ _ _) (congrArg (World.drewN _) (Nat.add_assoc _ _ _))⟩); have p598 : 0 ≤ (x5_2 : Int) := of_decide_eq_true asm; have q598 : x5_2 < (l0_0.length : Int) := of_decide_eq_true asm; obtain ⟨ad598, e598, hx598_0⟩ := Kd.at_int HR0_0.out x5_2 p598 q598; obtain rfl : ad596 = ad598 := (by injection e598); (first | replace hx598_0 := (HB.out.cell (World.block_lt_of_cell? w _ hx598_0)).trans hx598_0 | skip); replace p598 := eq_true p598; replace q598 := eq_true q598) | (go_at_call 44; (with_reducible refine (spec_l2At.calls _ _ l0_1 (wrap64 (x5_2 - 1)) t599 _ ?side1 ?side2 A20.out).mono ?_); (case side1 => repeat (first | exact (Kd.C_below HR0_1.out (bn HB.out)) | (with_reducible refine Kd.C_alloc ?_ _) | (with_reducible refine Kd.C_drewN ?_ _) | (with_reducible refine Kd.C_drew ?_))); (case side2 => exact HC0_1.out); rintro e w' ⟨rfl, ⟨nd, rfl⟩⟩; (try first | exact ⟨rfl, _, World.drewN_drewN _ _ _⟩ | exact ⟨rfl, _, Eq.trans (World.drewN_drewN _ _ _) (congrArg (World.drewN _) (Nat.add_assoc _ _ _))⟩)) | (go_at_call 44; (with_reducible refine (spec_l2At.calls _ _ l0_1 (IntKind.i64.wrap (x5_2 - 1)) t599 _ ?side1 ?side2 (by simpa only [i64_w] using A20.out)).mono ?_); (case side1 => repeat (first | exact (Kd.C_below HR0_1.out (bn HB.out)) | (with_reducible refine Kd.C_alloc ?_ _) | (with_reducible refine Kd.C_drewN ?_ _) | (with_reducible refine Kd.C_drew ?_))); (case side2 => exact HC0_1.out); rintro e w' ⟨rfl, ⟨nd, rfl⟩⟩; (try first | exact ⟨rfl, _, World.drewN_drewN _ _ _⟩ | exact ⟨rfl, _, Eq.trans (World.drewN_drewN _ _ _) (congrArg (World.drewN _) (Nat.add_assoc _ _ _))⟩))); try go_wp2_with (first | (go_at_call 44; (with_reducible refine (spec_l2At.calls _ _ l0_1 x5_2 t597 _ (cb HR0_1.out) HC0_1.out A17.out).mono ?_); rintro e w' ⟨rfl, ⟨nd, rfl⟩⟩; (try first | exact ⟨rfl, _, World.drewN_drewN _ _ _⟩ | exact ⟨rfl, _, Eq.trans (World.drewN_drewN _ _ _) (congrArg (World.drewN _) (Nat.add_assoc _ _ _))⟩); have p598 : 0 ≤ (x5_2 : Int) := of_decide_eq_true asm; have q598 : x5_2 < (l0_0.length : Int) := of_decide_eq_true asm; obtain ⟨ad598, e598, hx598_0⟩ := Kd.at_int HR0_0.out x5_2 p598 q598; obtain rfl : ad596 = ad598 := (by injection e598); (first | replace hx598_0 := (HB.out.cell (World.block_lt_of_cell? w _ hx598_0)).trans hx598_0 | skip); replace p598 := eq_true p598; replace q598 := eq_true q598) | (go_at_call 44; (with_reducible refine (spec_l2At.calls _ _ l0_1 (wrap64 (x5_2 - 1)) t599 _ ?side1 ?side2 A20.out).mono ?_); (case side1 => repeat (first | exact (Kd.C_below HR0_1.out (bn HB.out)) | (with_reducible refine Kd.C_alloc ?_ _) | (with_reducible refine Kd.C_drewN ?_ _) | (with_reducible refine Kd.C_drew ?_))); (case side2 => exact HC0_1.out); rintro e w' ⟨rfl, ⟨nd, rfl⟩⟩; (try first | exact ⟨rfl, _, World.drewN_drewN _ _ _⟩ | exact ⟨rfl, _, Eq.trans (World.drewN_drewN _ _ _) (congrArg (World.drewN _) (Nat.add_assoc _ _ _))⟩)) | (go_at_call 44; (with_reducible refine (spec_l2At.calls _ _ l0_1 (IntKind.i64.wrap (x5_2 - 1)) t599 _ ?side1 ?side2 (by simpa only [i64_w] using A20.out)).mono ?_); (case side1 => repeat (first | exact (Kd.C_below HR0_1.out (bn HB.out)) | (with_reducible refine Kd.C_alloc ?_ _) | (with_reducible refine Kd.C_drewN ?_ _) | (with_reducible refine Kd.C_drew ?_))); (case side2 => exact HC0_1.out); rintro e w' ⟨rfl, ⟨nd, rfl⟩⟩; (try first | exact ⟨rfl, _, World.drewN_drewN _ _ _⟩ | exact ⟨rfl, _, Eq.trans (World.drewN_drewN _ _ _) (congrArg (World.drewN _) (Nat.add_assoc _ _ _))⟩))))
           go_ret
           exact ⟨by first | rfl | (simp [errW_none, errW_some] <;> rfl) | (simp [*, errW_none, errW_some] <;> rfl), bn HB.out⟩
        ·rw [if_neg c16] at H
         exact absurd H (by simp)
       ·rw [if_neg c15] at H
        exact absurd H (by simp)
      ·rw [if_neg c14] at H
       have c14b0 : decide (x5_2 ≤ t594) = false := decide_eq_false c14
       clear c14
       obtain rfl := Option.some.inj H
       go_wp2
       repeat (go_quiet (fail); try go_wp2)
       go_ret
       exact ⟨by first | rfl | (simp [errW_none, errW_some] <;> rfl) | (simp [*, errW_none, errW_some] <;> rfl), bn HB.out⟩

/-! ### impl_RibbonHeight: function 21 -/
def impl_RibbonHeight.f (k : Nat) (l0_0 : List Int) (l0_1 : List Int) : Option (Int) := (impl_IsRibbon.f k l0_0 l0_1).bind fun t601 => (if t601 = true then ((impl_filledRows.f k l0_0 l0_1).bind fun t602 => (some (wrap64 ((t602.length : Int) - 1)))) else (some (-1)))
theorem impl_RibbonHeight.mono : ∀ a0 a1 k, LeO (impl_RibbonHeight.f k a0 a1) (impl_RibbonHeight.f (k + 1) a0 a1) := by
 intro a0 a1 k
 unfold impl_RibbonHeight.f
 repeat' first
   | (with_reducible exact impl_IsRibbon.mono _ _ _)
   | (with_reducible exact impl_filledRows.mono _ _ _)
   | (with_reducible exact LeO.refl _)
   | (with_reducible exact LeO.none _)
   | (with_reducible refine LeO.ite ?_ ?_)
   | (with_reducible refine LeO.bind ?_ (fun _ => ?_))
   | exact impl_IsRibbon.mono _ _ _
   | exact impl_filledRows.mono _ _ _
   | exact LeO.none _
   | refine LeO.ite ?_ ?_
   | refine LeO.bind ?_ (fun _ => ?_)
set_option maxHeartbeats 8000000 in
set_option maxRecDepth 100000 in
theorem impl_RibbonHeight.calls (k : Nat) (A0_0 : Option Addr) (c0_0 : Nat) (l0_0 : List Int) (A0_1 : Option Addr) (c0_1 : Nat) (l0_1 : List Int) (r : Int) (w : World) (hr0_0 : Kd.C (Kd.int .i64) w A0_0 l0_0.length l0_0) (hc0_0 : l0_0.length ≤ c0_0) (hr0_1 : Kd.C (Kd.int .i64) w A0_1 l0_1.length l0_1) (hc0_1 : l0_1.length ≤ c0_1) (h : impl_RibbonHeight.f k l0_0 l0_1 = some r) :
  Calls Tryz.prog 21 #[.agg #[.slice A0_0 l0_0.length c0_0, .slice A0_1 l0_1.length c0_1]] w fun e w' => e = .returned (.int .i64 r) ∧ Below w.heap.size w w' := by
 have hu26 := Tryz.underlying26
 have HR0_0 := Aside0.mk hr0_0
 have HC0_0 := Aside0.mk hc0_0
 clear hr0_0 hc0_0
 have HR0_1 := Aside0.mk hr0_1
 have HC0_1 := Aside0.mk hc0_1
 clear hr0_1 hc0_1
 have HB := Aside0.mk (Below.refl w.heap.size w)
 have H : ((impl_IsRibbon.f k l0_0 l0_1).bind fun t601 => (if t601 = true then ((impl_filledRows.f k l0_0 l0_1).bind fun t602 => (some (wrap64 ((t602.length : Int) - 1)))) else (some (-1)))) = some r := h
 clear h
 replace H := Option.bind_eq_some_iff.mp H
 obtain ⟨t601, A20, H⟩ := H
 replace H : (if t601 = true then ((impl_filledRows.f k l0_0 l0_1).bind fun t602 => (some (wrap64 ((t602.length : Int) - 1)))) else (some (-1))) = some r := H
 have A2 := Aside0.mk A20
 clear A20
 by_cases c3 : t601 = true
 ·subst c3
  have H1 : ((impl_filledRows.f k l0_0 l0_1).bind fun t602 => (some (wrap64 ((t602.length : Int) - 1)))) = some r := by rw [if_pos rfl] at H; exact H
  clear H
  have H := H1
  clear H1
  replace H := Option.bind_eq_some_iff.mp H
  obtain ⟨t602, A40, H⟩ := H
  replace H : (some (wrap64 ((t602.length : Int) - 1))) = some r := H
  have A4 := Aside0.mk A40
  clear A40
  obtain rfl := Option.some.inj H
  go_enter Tryz.func21, Tryz.ntmps21
  go_wp2_with (first | (refine boxE 1 #[.slice A0_0 l0_0.length c0_0, .slice A0_1 l0_1.length c0_1] 26 rfl ?_; intro gb600 hg w5 hbox hb; have BK600 := Aside0.mk (hbox); have GW600 := Aside0.mk ((by rw [hg]; exact (below_size bnow) : w.heap.size ≤ gb600)); have GE600 := Aside0.mk ((by rw [hg]; exact (below_size bnow) : w.heap.size ≤ gb600)); replace HB := Aside0.mk (below_step bnow hb); clear hb hbox hg; have hcz6_0 : w5.cell? ⟨gb600, 0, none⟩ = some (.slice A0_0 l0_0.length c0_0) := (blk_cell BK600.out 0).trans rfl; have hcz6_1 : w5.cell? ⟨gb600, 1, none⟩ = some (.slice A0_1 l0_1.length c0_1) := (blk_cell BK600.out 1).trans rfl; have hfz6_0 := blk_frozen BK600.out 0; have hfz6_1 := blk_frozen BK600.out 1) | ((with_reducible refine gate_callee (f := 19) rfl ?_); refine goesL_ (some 4) rfl rfl Tryz.func19 (by kernel_rfl) rfl #[.agg #[.slice A0_0 l0_0.length c0_0, .slice A0_1 l0_1.length c0_1]] rfl lm ?_; (with_reducible refine (impl_IsRibbon.calls k _ _ l0_0 _ _ l0_1 true _ (cb HR0_0.out) HC0_0.out (cb HR0_1.out) HC0_1.out A2.out).mono ?_); rintro e w7 ⟨rfl, hb⟩; refine ⟨_, rfl, ?_⟩; replace BK600 := Aside0.mk (blk_below (bk BK600.out) hb); replace HB := Aside0.mk (below_step (bn HB.out) hb); (try clear hb); (try clear hb2); (try clear hk); (try clear hi); have hcz8_0 : w7.cell? ⟨gb600, 0, none⟩ = some (.slice A0_0 l0_0.length c0_0) := (blk_cell BK600.out 0).trans rfl; have hcz8_1 : w7.cell? ⟨gb600, 1, none⟩ = some (.slice A0_1 l0_1.length c0_1) := (blk_cell BK600.out 1).trans rfl; have hfz8_0 := blk_frozen BK600.out 0; have hfz8_1 := blk_frozen BK600.out 1) | ((with_reducible refine gate_callee (f := 45) rfl ?_); refine goesL_ (some 7) rfl rfl Tryz.func45 (by kernel_rfl) rfl #[.agg #[.slice A0_0 l0_0.length c0_0, .slice A0_1 l0_1.length c0_1]] rfl lm ?_; (with_reducible refine (impl_filledRows.calls k _ _ l0_0 _ _ l0_1 t602 _ (cb HR0_0.out) HC0_0.out (cb HR0_1.out) HC0_1.out A4.out).mono ?_); rintro e w9 ⟨v603, rfl, ho0, hb⟩; refine ⟨_, rfl, ?_⟩; have HO604 := Aside0.mk (Kd.R_lower ho0 (below_size (bn HB.out))); replace BK600 := Aside0.mk (blk_below (bk BK600.out) hb); replace HB := Aside0.mk (below_step (bn HB.out) hb); (try clear hb); (try clear hb2); (try clear hk); (try clear hi); (try clear ho0); obtain ⟨Ao10, co10, eo10⟩ := Kd.R_slice HO604.out; subst eo10))
  go_ret
  exact ⟨by first | rfl | (simp [errW_none, errW_some] <;> rfl) | (simp [*, errW_none, errW_some] <;> rfl), bn HB.out⟩
 ·replace c3 := Bool.eq_false_iff.mpr c3
  subst c3
  have H1 : (some (-1)) = some r := by rw [if_neg (show ¬ (false = true) by decide)] at H; exact H
  clear H
  have H := H1
  clear H1
  obtain rfl := Option.some.inj H
  go_enter Tryz.func21, Tryz.ntmps21
  go_wp2_with (first | (refine boxE 1 #[.slice A0_0 l0_0.length c0_0, .slice A0_1 l0_1.length c0_1] 26 rfl ?_; intro gb600 hg w11 hbox hb; have BK600 := Aside0.mk (hbox); have GW600 := Aside0.mk ((by rw [hg]; exact (below_size bnow) : w.heap.size ≤ gb600)); have GE600 := Aside0.mk ((by rw [hg]; exact (below_size bnow) : w.heap.size ≤ gb600)); replace HB := Aside0.mk (below_step bnow hb); clear hb hbox hg; have hcz12_0 : w11.cell? ⟨gb600, 0, none⟩ = some (.slice A0_0 l0_0.length c0_0) := (blk_cell BK600.out 0).trans rfl; have hcz12_1 : w11.cell? ⟨gb600, 1, none⟩ = some (.slice A0_1 l0_1.length c0_1) := (blk_cell BK600.out 1).trans rfl; have hfz12_0 := blk_frozen BK600.out 0; have hfz12_1 := blk_frozen BK600.out 1) | ((with_reducible refine gate_callee (f := 19) rfl ?_); refine goesL_ (some 4) rfl rfl Tryz.func19 (by kernel_rfl) rfl #[.agg #[.slice A0_0 l0_0.length c0_0, .slice A0_1 l0_1.length c0_1]] rfl lm ?_; (with_reducible refine (impl_IsRibbon.calls k _ _ l0_0 _ _ l0_1 false _ (cb HR0_0.out) HC0_0.out (cb HR0_1.out) HC0_1.out A2.out).mono ?_); rintro e w13 ⟨rfl, hb⟩; refine ⟨_, rfl, ?_⟩; replace BK600 := Aside0.mk (blk_below (bk BK600.out) hb); replace HB := Aside0.mk (below_step (bn HB.out) hb); (try clear hb); (try clear hb2); (try clear hk); (try clear hi)))
  go_ret
  exact ⟨by first | rfl | (simp [errW_none, errW_some] <;> rfl) | (simp [*, errW_none, errW_some] <;> rfl), bn HB.out⟩

/-! ### spec_RibbonHeight: function 22 -/
def spec_RibbonHeight.f (k : Nat) (l0_0 : List Int) (l0_1 : List Int) : Option (Int) := (spec_IsRibbon.f k l0_0 l0_1).bind fun t606 => (if t606 = true then ((spec_l4Rows.f k l0_0 l0_1).bind fun bt607 => (some (wrap64 (bt607.2 - bt607.1)))) else (some (-1)))
theorem spec_RibbonHeight.mono : ∀ a0 a1 k, LeO (spec_RibbonHeight.f k a0 a1) (spec_RibbonHeight.f (k + 1) a0 a1) := by
 intro a0 a1 k
 unfold spec_RibbonHeight.f
 repeat' first
   | (with_reducible exact spec_IsRibbon.mono _ _ _)
   | (with_reducible exact spec_l4Rows.mono _ _ _)
   | (with_reducible exact LeO.refl _)
   | (with_reducible exact LeO.none _)
   | (with_reducible refine LeO.ite ?_ ?_)
   | (with_reducible refine LeO.bind ?_ (fun _ => ?_))
   | exact spec_IsRibbon.mono _ _ _
   | exact spec_l4Rows.mono _ _ _
   | exact LeO.none _
   | refine LeO.ite ?_ ?_
   | refine LeO.bind ?_ (fun _ => ?_)
set_option maxHeartbeats 8000000 in
set_option maxRecDepth 100000 in
theorem spec_RibbonHeight.calls (k : Nat) (A0_0 : Option Addr) (c0_0 : Nat) (l0_0 : List Int) (A0_1 : Option Addr) (c0_1 : Nat) (l0_1 : List Int) (r : Int) (w : World) (hr0_0 : Kd.C (Kd.int .i64) w A0_0 l0_0.length l0_0) (hc0_0 : l0_0.length ≤ c0_0) (hr0_1 : Kd.C (Kd.int .i64) w A0_1 l0_1.length l0_1) (hc0_1 : l0_1.length ≤ c0_1) (h : spec_RibbonHeight.f k l0_0 l0_1 = some r) :
  Calls Tryz.prog 22 #[.agg #[.slice A0_0 l0_0.length c0_0, .slice A0_1 l0_1.length c0_1]] w fun e w' => e = .returned (.int .i64 r) ∧ Below w.heap.size w w' := by
 have hu26 := Tryz.underlying26
 have HR0_0 := Aside0.mk hr0_0
 have HC0_0 := Aside0.mk hc0_0
 clear hr0_0 hc0_0
 have HR0_1 := Aside0.mk hr0_1
 have HC0_1 := Aside0.mk hc0_1
 clear hr0_1 hc0_1
 have HB := Aside0.mk (Below.refl w.heap.size w)
 have H : ((spec_IsRibbon.f k l0_0 l0_1).bind fun t606 => (if t606 = true then ((spec_l4Rows.f k l0_0 l0_1).bind fun bt607 => (some (wrap64 (bt607.2 - bt607.1)))) else (some (-1)))) = some r := h
 clear h
 replace H := Option.bind_eq_some_iff.mp H
 obtain ⟨t606, A20, H⟩ := H
 replace H : (if t606 = true then ((spec_l4Rows.f k l0_0 l0_1).bind fun bt607 => (some (wrap64 (bt607.2 - bt607.1)))) else (some (-1))) = some r := H
 have A2 := Aside0.mk A20
 clear A20
 by_cases c3 : t606 = true
 ·subst c3
  have H1 : ((spec_l4Rows.f k l0_0 l0_1).bind fun bt607 => (some (wrap64 (bt607.2 - bt607.1)))) = some r := by rw [if_pos rfl] at H; exact H
  clear H
  have H := H1
  clear H1
  replace H := Option.bind_eq_some_iff.mp H
  obtain ⟨⟨t607, t608⟩, A40, H⟩ := H
  replace H : (some (wrap64 (t608 - t607))) = some r := H
  have A4 := Aside0.mk A40
  clear A40
  obtain rfl := Option.some.inj H
  go_enter Tryz.func22, Tryz.ntmps22
  go_wp2_with (first | (refine boxE 1 #[.slice A0_0 l0_0.length c0_0, .slice A0_1 l0_1.length c0_1] 26 rfl ?_; intro gb605 hg w5 hbox hb; have BK605 := Aside0.mk (hbox); have GW605 := Aside0.mk ((by rw [hg]; exact (below_size bnow) : w.heap.size ≤ gb605)); have GE605 := Aside0.mk ((by rw [hg]; exact (below_size bnow) : w.heap.size ≤ gb605)); replace HB := Aside0.mk (below_step bnow hb); clear hb hbox hg; have hcz6_0 : w5.cell? ⟨gb605, 0, none⟩ = some (.slice A0_0 l0_0.length c0_0) := (blk_cell BK605.out 0).trans rfl; have hcz6_1 : w5.cell? ⟨gb605, 1, none⟩ = some (.slice A0_1 l0_1.length c0_1) := (blk_cell BK605.out 1).trans rfl; have hfz6_0 := blk_frozen BK605.out 0; have hfz6_1 := blk_frozen BK605.out 1) | ((with_reducible refine gate_callee (f := 20) rfl ?_); refine goesL_ (some 6) rfl rfl Tryz.func20 (by kernel_rfl) rfl #[.agg #[.slice A0_0 l0_0.length c0_0, .slice A0_1 l0_1.length c0_1]] rfl lm ?_; (with_reducible refine (spec_IsRibbon.calls k _ _ l0_0 _ _ l0_1 true _ (cb HR0_0.out) HC0_0.out (cb HR0_1.out) HC0_1.out A2.out).mono ?_); rintro e w7 ⟨rfl, hb⟩; refine ⟨_, rfl, ?_⟩; replace BK605 := Aside0.mk (blk_below (bk BK605.out) hb); replace HB := Aside0.mk (below_step (bn HB.out) hb); (try clear hb); (try clear hb2); (try clear hk); (try clear hi); have hcz8_0 : w7.cell? ⟨gb605, 0, none⟩ = some (.slice A0_0 l0_0.length c0_0) := (blk_cell BK605.out 0).trans rfl; have hcz8_1 : w7.cell? ⟨gb605, 1, none⟩ = some (.slice A0_1 l0_1.length c0_1) := (blk_cell BK605.out 1).trans rfl; have hfz8_0 := blk_frozen BK605.out 0; have hfz8_1 := blk_frozen BK605.out 1) | ((with_reducible refine gate_callee (f := 46) rfl ?_); refine goesL_ (some 10) rfl rfl Tryz.func46 (by kernel_rfl) rfl #[.agg #[.slice A0_0 l0_0.length c0_0, .slice A0_1 l0_1.length c0_1]] rfl lm ?_; (with_reducible refine (spec_l4Rows.calls k _ _ l0_0 _ _ l0_1 t607 t608 _ (cb HR0_0.out) HC0_0.out (cb HR0_1.out) HC0_1.out A4.out).mono ?_); rintro e w9 ⟨rfl, hb⟩; refine ⟨_, rfl, ?_⟩; replace BK605 := Aside0.mk (blk_below (bk BK605.out) hb); replace HB := Aside0.mk (below_step (bn HB.out) hb); (try clear hb); (try clear hb2); (try clear hk); (try clear hi)))
  go_ret
  exact ⟨by first | rfl | (simp [errW_none, errW_some] <;> rfl) | (simp [*, errW_none, errW_some] <;> rfl), bn HB.out⟩
 ·replace c3 := Bool.eq_false_iff.mpr c3
  subst c3
  have H1 : (some (-1)) = some r := by rw [if_neg (show ¬ (false = true) by decide)] at H; exact H
  clear H
  have H := H1
  clear H1
  obtain rfl := Option.some.inj H
  go_enter Tryz.func22, Tryz.ntmps22
  go_wp2_with (first | (refine boxE 1 #[.slice A0_0 l0_0.length c0_0, .slice A0_1 l0_1.length c0_1] 26 rfl ?_; intro gb605 hg w10 hbox hb; have BK605 := Aside0.mk (hbox); have GW605 := Aside0.mk ((by rw [hg]; exact (below_size bnow) : w.heap.size ≤ gb605)); have GE605 := Aside0.mk ((by rw [hg]; exact (below_size bnow) : w.heap.size ≤ gb605)); replace HB := Aside0.mk (below_step bnow hb); clear hb hbox hg; have hcz11_0 : w10.cell? ⟨gb605, 0, none⟩ = some (.slice A0_0 l0_0.length c0_0) := (blk_cell BK605.out 0).trans rfl; have hcz11_1 : w10.cell? ⟨gb605, 1, none⟩ = some (.slice A0_1 l0_1.length c0_1) := (blk_cell BK605.out 1).trans rfl; have hfz11_0 := blk_frozen BK605.out 0; have hfz11_1 := blk_frozen BK605.out 1) | ((with_reducible refine gate_callee (f := 20) rfl ?_); refine goesL_ (some 6) rfl rfl Tryz.func20 (by kernel_rfl) rfl #[.agg #[.slice A0_0 l0_0.length c0_0, .slice A0_1 l0_1.length c0_1]] rfl lm ?_; (with_reducible refine (spec_IsRibbon.calls k _ _ l0_0 _ _ l0_1 false _ (cb HR0_0.out) HC0_0.out (cb HR0_1.out) HC0_1.out A2.out).mono ?_); rintro e w12 ⟨rfl, hb⟩; refine ⟨_, rfl, ?_⟩; replace BK605 := Aside0.mk (blk_below (bk BK605.out) hb); replace HB := Aside0.mk (below_step (bn HB.out) hb); (try clear hb); (try clear hb2); (try clear hk); (try clear hi)))
  go_ret
  exact ⟨by first | rfl | (simp [errW_none, errW_some] <;> rfl) | (simp [*, errW_none, errW_some] <;> rfl), bn HB.out⟩

/-! ### slices_Equal_int_int: function 47 -/
def slices_Equal_int_int.l0 : Nat → List Int → List Int → Int → Int → Option (Bool)
 | 0, _, _, _, _ => none
 | k + 1, x0, x1, x12, x13 => if x13 < x12 then (if 0 ≤ x13 then (if x13 < (x0.length : Int) then (if x13 < (x1.length : Int) then (if (rd x0 x13) = (rd x1 x13) then (slices_Equal_int_int.l0 k x0 x1 x12 (wrap64 (x13 + 1))) else (some false)) else (none)) else (none)) else (none)) else (some true)
def slices_Equal_int_int.f (k : Nat) (l0 : List Int) (l1 : List Int) : Option (Bool) := if (l0.length : Int) = (l1.length : Int) then (slices_Equal_int_int.l0 k l0 l1 (l0.length : Int) 0) else (some false)
theorem slices_Equal_int_int.mono_l : ∀ k, (∀ y0 y1 y2 y3, LeO (slices_Equal_int_int.l0 k y0 y1 y2 y3) (slices_Equal_int_int.l0 (k + 1) y0 y1 y2 y3))
 | 0 => fun _ _ _ _ r h => by simp [slices_Equal_int_int.l0] at h
 | k + 1 => by
  have ih0 := slices_Equal_int_int.mono_l k
  ·intro y0 y1 y2 y3
   unfold slices_Equal_int_int.l0
   repeat' first
   | (with_reducible exact ih0 _ _ _ _)
   | (with_reducible exact LeO.refl _)
   | (with_reducible exact LeO.none _)
   | (with_reducible refine LeO.ite ?_ ?_)
   | (with_reducible refine LeO.bind ?_ (fun _ => ?_))
   | exact ih0 _ _ _ _
   | exact LeO.none _
   | refine LeO.ite ?_ ?_
   | refine LeO.bind ?_ (fun _ => ?_)
theorem slices_Equal_int_int.mono : ∀ a0 a1 k, LeO (slices_Equal_int_int.f k a0 a1) (slices_Equal_int_int.f (k + 1) a0 a1) := by
 intro a0 a1 k
 have ih0 := slices_Equal_int_int.mono_l k
 unfold slices_Equal_int_int.f
 repeat' first
   | (with_reducible exact ih0 _ _ _ _)
   | (with_reducible exact LeO.refl _)
   | (with_reducible exact LeO.none _)
   | (with_reducible refine LeO.ite ?_ ?_)
   | (with_reducible refine LeO.bind ?_ (fun _ => ?_))
   | exact ih0 _ _ _ _
   | exact LeO.none _
   | refine LeO.ite ?_ ?_
   | refine LeO.bind ?_ (fun _ => ?_)
set_option maxHeartbeats 8000000 in
set_option maxRecDepth 100000 in
theorem slices_Equal_int_int.calls (k : Nat) (A0 : Option Addr) (c0 : Nat) (l0 : List Int) (A1 : Option Addr) (c1 : Nat) (l1 : List Int) (r : Bool) (w : World) (hr0 : Kd.C (Kd.int .i64) w A0 l0.length l0) (hc0 : l0.length ≤ c0) (hr1 : Kd.C (Kd.int .i64) w A1 l1.length l1) (hc1 : l1.length ≤ c1) (h : slices_Equal_int_int.f k l0 l1 = some r) :
  Calls Tryz.prog 47 #[.slice A0 l0.length c0, .slice A1 l1.length c1] w fun e w' => e = .returned (.bool r) ∧ Drawn0 w w' := by
 have HR0 := Aside0.mk hr0
 have HC0 := Aside0.mk hc0
 clear hr0 hc0
 have HR1 := Aside0.mk hr1
 have HC1 := Aside0.mk hc1
 clear hr1 hc1
 have H : (if (l0.length : Int) = (l1.length : Int) then (slices_Equal_int_int.l0 k l0 l1 (l0.length : Int) 0) else (some false)) = some r := h
 clear h
 by_cases c3 : (l0.length : Int) = (l1.length : Int)
 ·rw [if_pos c3] at H
  have c3b0 : ((l0.length : Int) == (l1.length : Int)) = true := beq_iff_eq.mpr c3
  have c3b1 : ((l0.length : Int) != (l1.length : Int)) = false := bne_eq_false_iff_eq.mpr c3
  have c3b2 : (l0.length == l1.length) = true := by first | simpa using c3 | (simp at c3 ⊢; omega)
  clear c3
  have H' := Aside0.mk H
  clear H
  go_enter Tryz.func47, Tryz.ntmps47
  go_wp2
  repeat (go_quiet (fail); try go_wp2)
  go_loopg [13] k (fun kq v13 w' => ∃ (x13_1 : Int), v13 = .int .i64 x13_1 ∧ Aside0 (slices_Equal_int_int.l0 kq l0 l1 (l0.length : Int) x13_1 = some r) ∧ Aside0 (kq ≤ k) ∧ Drawn0 w w')
  case atStart => exact ⟨(0), (by first | rfl | (simp; done) | (simp [*]; done)), H', ⟨Nat.le_refl _⟩, by repeat (first | exact Drawn0.refl _ | apply Drawn0.step)⟩
  case round =>
   clear H'
   try clear c1
   try clear p2
   try clear c3
   try clear c3b0
   try clear c3b1
   try clear c3b2
   obtain ⟨x13_1, rfl, HA, HK1, ⟨m1, rfl⟩⟩ := hrel
   cases gk with
   | zero => exact absurd HA.out (by simp [slices_Equal_int_int.l0])
   | succ k1 =>
    have H := HA.out
    clear HA
    simp only [slices_Equal_int_int.l0] at H
    by_cases c4 : x13_1 < (l0.length : Int)
    ·rw [if_pos c4] at H
     have c4b0 : decide (x13_1 < (l0.length : Int)) = true := decide_eq_true c4
     clear c4
     by_cases c5 : 0 ≤ x13_1
     ·rw [if_pos c5] at H
      have c5b0 : decide (0 ≤ x13_1) = true := decide_eq_true c5
      clear c5
      by_cases c6 : x13_1 < (l0.length : Int)
      ·rw [if_pos c6] at H
       have c6b0 : decide (x13_1 < (l0.length : Int)) = true := decide_eq_true c6
       clear c6
       by_cases c7 : x13_1 < (l1.length : Int)
       ·rw [if_pos c7] at H
        have c7b0 : decide (x13_1 < (l1.length : Int)) = true := decide_eq_true c7
        clear c7
        by_cases c8 : (rd l0 x13_1) = (rd l1 x13_1)
        ·rw [if_pos c8] at H
         have c8b0 : ((rd l0 x13_1) == (rd l1 x13_1)) = true := beq_iff_eq.mpr c8
         have c8b1 : ((rd l0 x13_1) != (rd l1 x13_1)) = false := bne_eq_false_iff_eq.mpr c8
         clear c8
         have H' := Aside0.mk H
         clear H
         have p609 : 0 ≤ (x13_1 : Int) := of_decide_eq_true asm
         have q609 : x13_1 < (l0.length : Int) := of_decide_eq_true asm
         obtain ⟨ad609, e609, hx609_0⟩ := Kd.at_int HR0.out x13_1 p609 q609
         cases e609
         replace p609 := eq_true p609
         replace q609 := eq_true q609
         have p610 : 0 ≤ (x13_1 : Int) := of_decide_eq_true asm
         have q610 : x13_1 < (l1.length : Int) := of_decide_eq_true asm
         obtain ⟨ad610, e610, hx610_0⟩ := Kd.at_int HR1.out x13_1 p610 q610
         cases e610
         replace p610 := eq_true p610
         replace q610 := eq_true q610
         go_wp2
         repeat (go_quiet (fail); try go_wp2)
         go_roundg k1
         case measure => have := HK1.out; omega
         case rel => exact ⟨(wrap64 (x13_1 + 1)), (by first | rfl | (simp; done) | (simp [*]; done)), H', ⟨by have := HK1.out; omega⟩, by repeat (first | exact Drawn0.refl _ | apply Drawn0.step)⟩
        ·rw [if_neg c8] at H
         have c8b0 : ((rd l0 x13_1) == (rd l1 x13_1)) = false := beq_eq_false_iff_ne.mpr c8
         have c8b1 : ((rd l0 x13_1) != (rd l1 x13_1)) = true := bne_iff_ne.mpr c8
         obtain rfl := Option.some.inj H
         have p609 : 0 ≤ (x13_1 : Int) := of_decide_eq_true asm
         have q609 : x13_1 < (l0.length : Int) := of_decide_eq_true asm
         obtain ⟨ad609, e609, hx609_0⟩ := Kd.at_int HR0.out x13_1 p609 q609
         cases e609
         replace p609 := eq_true p609
         replace q609 := eq_true q609
         have p610 : 0 ≤ (x13_1 : Int) := of_decide_eq_true asm
         have q610 : x13_1 < (l1.length : Int) := of_decide_eq_true asm
         obtain ⟨ad610, e610, hx610_0⟩ := Kd.at_int HR1.out x13_1 p610 q610
         cases e610
         replace p610 := eq_true p610
         replace q610 := eq_true q610
         go_wp2
         repeat (go_quiet (fail); try go_wp2)
         go_ret
         exact ⟨by first | rfl | (simp; done) | (simp [*]; done), by repeat (first | exact Drawn0.refl _ | apply Drawn0.step)⟩
       ·rw [if_neg c7] at H
        exact absurd H (by simp)
      ·rw [if_neg c6] at H
       exact absurd H (by simp)
     ·rw [if_neg c5] at H
      exact absurd H (by simp)
    ·rw [if_neg c4] at H
     have c4b0 : decide (x13_1 < (l0.length : Int)) = false := decide_eq_false c4
     clear c4
     obtain rfl := Option.some.inj H
     go_wp2
     repeat (go_quiet (fail); try go_wp2)
     go_ret
     exact ⟨by first | rfl | (simp; done) | (simp [*]; done), by repeat (first | exact Drawn0.refl _ | apply Drawn0.step)⟩
 ·rw [if_neg c3] at H
  have c3b0 : ((l0.length : Int) == (l1.length : Int)) = false := beq_eq_false_iff_ne.mpr c3
  have c3b1 : ((l0.length : Int) != (l1.length : Int)) = true := bne_iff_ne.mpr c3
  have c3b2 : (l0.length == l1.length) = false := by first | simpa using c3 | (simp at c3 ⊢; omega)
  obtain rfl := Option.some.inj H
  go_enter Tryz.func47, Tryz.ntmps47
  go_wp2
  repeat (go_quiet (fail); try go_wp2)
  go_ret
  exact ⟨by first | rfl | (simp; done) | (simp [*]; done), by repeat (first | exact Drawn0.refl _ | apply Drawn0.step)⟩

/-! ### impl_EqualShape: function 23 -/
def impl_EqualShape.f (k : Nat) (l0_0 : List Int) (l0_1 : List Int) (l1_0 : List Int) (l1_1 : List Int) : Option (Bool) := (slices_Equal_int_int.f k l0_0 l1_0).bind fun t613 => (if t613 = true then ((slices_Equal_int_int.f k l0_1 l1_1).bind fun t614 => (some t614)) else (some false))
theorem impl_EqualShape.mono : ∀ a0 a1 a2 a3 k, LeO (impl_EqualShape.f k a0 a1 a2 a3) (impl_EqualShape.f (k + 1) a0 a1 a2 a3) := by
 intro a0 a1 a2 a3 k
 unfold impl_EqualShape.f
 repeat' first
   | (with_reducible exact slices_Equal_int_int.mono _ _ _)
   | (with_reducible exact LeO.refl _)
   | (with_reducible exact LeO.none _)
   | (with_reducible refine LeO.ite ?_ ?_)
   | (with_reducible refine LeO.bind ?_ (fun _ => ?_))
   | exact slices_Equal_int_int.mono _ _ _
   | exact LeO.none _
   | refine LeO.ite ?_ ?_
   | refine LeO.bind ?_ (fun _ => ?_)
set_option maxHeartbeats 8000000 in
set_option maxRecDepth 100000 in
theorem impl_EqualShape.calls (k : Nat) (A0_0 : Option Addr) (c0_0 : Nat) (l0_0 : List Int) (A0_1 : Option Addr) (c0_1 : Nat) (l0_1 : List Int) (A1_0 : Option Addr) (c1_0 : Nat) (l1_0 : List Int) (A1_1 : Option Addr) (c1_1 : Nat) (l1_1 : List Int) (r : Bool) (w : World) (hr0_0 : Kd.C (Kd.int .i64) w A0_0 l0_0.length l0_0) (hc0_0 : l0_0.length ≤ c0_0) (hr0_1 : Kd.C (Kd.int .i64) w A0_1 l0_1.length l0_1) (hc0_1 : l0_1.length ≤ c0_1) (hr1_0 : Kd.C (Kd.int .i64) w A1_0 l1_0.length l1_0) (hc1_0 : l1_0.length ≤ c1_0) (hr1_1 : Kd.C (Kd.int .i64) w A1_1 l1_1.length l1_1) (hc1_1 : l1_1.length ≤ c1_1) (h : impl_EqualShape.f k l0_0 l0_1 l1_0 l1_1 = some r) :
  Calls Tryz.prog 23 #[.agg #[.slice A0_0 l0_0.length c0_0, .slice A0_1 l0_1.length c0_1], .agg #[.slice A1_0 l1_0.length c1_0, .slice A1_1 l1_1.length c1_1]] w fun e w' => e = .returned (.bool r) ∧ Below w.heap.size w w' := by
 have hu26 := Tryz.underlying26
 have HR0_0 := Aside0.mk hr0_0
 have HC0_0 := Aside0.mk hc0_0
 clear hr0_0 hc0_0
 have HR0_1 := Aside0.mk hr0_1
 have HC0_1 := Aside0.mk hc0_1
 clear hr0_1 hc0_1
 have HR1_0 := Aside0.mk hr1_0
 have HC1_0 := Aside0.mk hc1_0
 clear hr1_0 hc1_0
 have HR1_1 := Aside0.mk hr1_1
 have HC1_1 := Aside0.mk hc1_1
 clear hr1_1 hc1_1
 have HB := Aside0.mk (Below.refl w.heap.size w)
 have H : ((slices_Equal_int_int.f k l0_0 l1_0).bind fun t613 => (if t613 = true then ((slices_Equal_int_int.f k l0_1 l1_1).bind fun t614 => (some t614)) else (some false))) = some r := h
 clear h
 replace H := Option.bind_eq_some_iff.mp H
 obtain ⟨t613, A30, H⟩ := H
 replace H : (if t613 = true then ((slices_Equal_int_int.f k l0_1 l1_1).bind fun t614 => (some t614)) else (some false)) = some r := H
 have A3 := Aside0.mk A30
 clear A30
 by_cases c4 : t613 = true
 ·subst c4
  have H1 : ((slices_Equal_int_int.f k l0_1 l1_1).bind fun t614 => (some t614)) = some r := by rw [if_pos rfl] at H; exact H
  clear H
  have H := H1
  clear H1
  replace H := Option.bind_eq_some_iff.mp H
  obtain ⟨t614, A50, H⟩ := H
  replace H : (some t614) = some r := H
  have A5 := Aside0.mk A50
  clear A50
  obtain rfl := Option.some.inj H
  go_enter Tryz.func23, Tryz.ntmps23
  go_wp2_with (first | (refine boxE 2 #[.slice A0_0 l0_0.length c0_0, .slice A0_1 l0_1.length c0_1] 26 rfl ?_; intro gb611 hg w6 hbox hb; have BK611 := Aside0.mk (hbox); have GW611 := Aside0.mk ((by rw [hg]; exact (below_size bnow) : w.heap.size ≤ gb611)); have GE611 := Aside0.mk ((by rw [hg]; exact (below_size bnow) : w.heap.size ≤ gb611)); replace HB := Aside0.mk (below_step bnow hb); clear hb hbox hg) | (refine boxE 3 #[.slice A1_0 l1_0.length c1_0, .slice A1_1 l1_1.length c1_1] 26 rfl ?_; intro gb612 hg w7 hbox hb; have BK612 := Aside0.mk (hbox); have GW612 := Aside0.mk ((by rw [hg]; exact (below_size (bn HB.out)) : w.heap.size ≤ gb612)); have GE612 := Aside0.mk ((by rw [hg]; exact (below_size (bn HB.out)) : w.heap.size ≤ gb612)); replace HB := Aside0.mk (below_step (bn HB.out) hb); have NB611_612 := Aside0.mk ((by rw [hg]; exact Nat.ne_of_lt (blk_lt (g := gb611) (o := .cells #[.slice A0_0 l0_0.length c0_0, .slice A0_1 l0_1.length c0_1] 26 (0, 0)) (bk BK611.out)) : gb611 ≠ gb612)); have NB612_611 := Aside0.mk ((by rw [hg]; exact Nat.ne_of_gt (blk_lt (g := gb611) (o := .cells #[.slice A0_0 l0_0.length c0_0, .slice A0_1 l0_1.length c0_1] 26 (0, 0)) (bk BK611.out)) : gb612 ≠ gb611)); replace BK611 := Aside0.mk (blk_below (bk BK611.out) hb); clear hb hbox hg; have hnb8 := NB611_612.out; have hnc8 := NB612_611.out; have hcz9_0 : w7.cell? ⟨gb611, 0, none⟩ = some (.slice A0_0 l0_0.length c0_0) := (blk_cell BK611.out 0).trans rfl; have hcz9_1 : w7.cell? ⟨gb611, 1, none⟩ = some (.slice A0_1 l0_1.length c0_1) := (blk_cell BK611.out 1).trans rfl; have hfz9_0 := blk_frozen BK611.out 0; have hfz9_1 := blk_frozen BK611.out 1; have hcz10_0 : w7.cell? ⟨gb612, 0, none⟩ = some (.slice A1_0 l1_0.length c1_0) := (blk_cell BK612.out 0).trans rfl; have hcz10_1 : w7.cell? ⟨gb612, 1, none⟩ = some (.slice A1_1 l1_1.length c1_1) := (blk_cell BK612.out 1).trans rfl; have hfz10_0 := blk_frozen BK612.out 0; have hfz10_1 := blk_frozen BK612.out 1) | ((with_reducible refine gate_callee (f := 47) rfl ?_); refine goesL_ (some 9) rfl rfl Tryz.func47 (by kernel_rfl) rfl #[.slice A0_0 l0_0.length c0_0, .slice A1_0 l1_0.length c1_0] rfl lm ?_; (with_reducible refine (slices_Equal_int_int.calls k _ _ l0_0 _ _ l1_0 true _ (cb HR0_0.out) HC0_0.out (cb HR1_0.out) HC1_0.out A3.out).mono ?_); rintro e w' ⟨rfl, ⟨nd, rfl⟩⟩; refine ⟨_, rfl, ?_⟩) | (go_at_call 47; (with_reducible refine (slices_Equal_int_int.calls k _ _ l0_1 _ _ l1_1 t614 _ ?side1 ?side2 ?side3 ?side4 A5.out).mono ?_); (case side1 => repeat (first | exact (Kd.C_below HR0_1.out (bn HB.out)) | (with_reducible refine Kd.C_alloc ?_ _) | (with_reducible refine Kd.C_drewN ?_ _) | (with_reducible refine Kd.C_drew ?_))); (case side2 => exact HC0_1.out); (case side3 => repeat (first | exact (Kd.C_below HR1_1.out (bn HB.out)) | (with_reducible refine Kd.C_alloc ?_ _) | (with_reducible refine Kd.C_drewN ?_ _) | (with_reducible refine Kd.C_drew ?_))); (case side4 => exact HC1_1.out); rintro e w' ⟨rfl, ⟨nd, rfl⟩⟩))
  go_ret
  exact ⟨by first | rfl | (simp [errW_none, errW_some] <;> rfl) | (simp [*, errW_none, errW_some] <;> rfl), bn HB.out⟩
 ·replace c4 := Bool.eq_false_iff.mpr c4
  subst c4
  have H1 : (some false) = some r := by rw [if_neg (show ¬ (false = true) by decide)] at H; exact H
  clear H
  have H := H1
  clear H1
  obtain rfl := Option.some.inj H
  go_enter Tryz.func23, Tryz.ntmps23
  go_wp2_with (first | (refine boxE 2 #[.slice A0_0 l0_0.length c0_0, .slice A0_1 l0_1.length c0_1] 26 rfl ?_; intro gb611 hg w11 hbox hb; have BK611 := Aside0.mk (hbox); have GW611 := Aside0.mk ((by rw [hg]; exact (below_size bnow) : w.heap.size ≤ gb611)); have GE611 := Aside0.mk ((by rw [hg]; exact (below_size bnow) : w.heap.size ≤ gb611)); replace HB := Aside0.mk (below_step bnow hb); clear hb hbox hg) | (refine boxE 3 #[.slice A1_0 l1_0.length c1_0, .slice A1_1 l1_1.length c1_1] 26 rfl ?_; intro gb612 hg w12 hbox hb; have BK612 := Aside0.mk (hbox); have GW612 := Aside0.mk ((by rw [hg]; exact (below_size (bn HB.out)) : w.heap.size ≤ gb612)); have GE612 := Aside0.mk ((by rw [hg]; exact (below_size (bn HB.out)) : w.heap.size ≤ gb612)); replace HB := Aside0.mk (below_step (bn HB.out) hb); have NB611_612 := Aside0.mk ((by rw [hg]; exact Nat.ne_of_lt (blk_lt (g := gb611) (o := .cells #[.slice A0_0 l0_0.length c0_0, .slice A0_1 l0_1.length c0_1] 26 (0, 0)) (bk BK611.out)) : gb611 ≠ gb612)); have NB612_611 := Aside0.mk ((by rw [hg]; exact Nat.ne_of_gt (blk_lt (g := gb611) (o := .cells #[.slice A0_0 l0_0.length c0_0, .slice A0_1 l0_1.length c0_1] 26 (0, 0)) (bk BK611.out)) : gb612 ≠ gb611)); replace BK611 := Aside0.mk (blk_below (bk BK611.out) hb); clear hb hbox hg; have hnb13 := NB611_612.out; have hnc13 := NB612_611.out; have hcz14_0 : w12.cell? ⟨gb611, 0, none⟩ = some (.slice A0_0 l0_0.length c0_0) := (blk_cell BK611.out 0).trans rfl; have hcz14_1 : w12.cell? ⟨gb611, 1, none⟩ = some (.slice A0_1 l0_1.length c0_1) := (blk_cell BK611.out 1).trans rfl; have hfz14_0 := blk_frozen BK611.out 0; have hfz14_1 := blk_frozen BK611.out 1; have hcz15_0 : w12.cell? ⟨gb612, 0, none⟩ = some (.slice A1_0 l1_0.length c1_0) := (blk_cell BK612.out 0).trans rfl; have hcz15_1 : w12.cell? ⟨gb612, 1, none⟩ = some (.slice A1_1 l1_1.length c1_1) := (blk_cell BK612.out 1).trans rfl; have hfz15_0 := blk_frozen BK612.out 0; have hfz15_1 := blk_frozen BK612.out 1) | ((with_reducible refine gate_callee (f := 47) rfl ?_); refine goesL_ (some 9) rfl rfl Tryz.func47 (by kernel_rfl) rfl #[.slice A0_0 l0_0.length c0_0, .slice A1_0 l1_0.length c1_0] rfl lm ?_; (with_reducible refine (slices_Equal_int_int.calls k _ _ l0_0 _ _ l1_0 false _ (cb HR0_0.out) HC0_0.out (cb HR1_0.out) HC1_0.out A3.out).mono ?_); rintro e w' ⟨rfl, ⟨nd, rfl⟩⟩; refine ⟨_, rfl, ?_⟩))
  go_ret
  exact ⟨by first | rfl | (simp [errW_none, errW_some] <;> rfl) | (simp [*, errW_none, errW_some] <;> rfl), bn HB.out⟩

end Go.Proofs.YtkbomfpebhjaoaaGreatDoor.QFnShapes
