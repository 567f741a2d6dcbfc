/- A text of this session's own program (wip/myprint.py): functions that the law FnExactParseTableau reaches, as plain Lean functions, each with the proof that the call does just that. No condition beyond those that each statement bears. -/
import Derived.Test.YtcegeleoicjciaaDoorQFnExactParseTableaux0
import Derived.Test.YtcegeleoicjciaaDoorQFnExactParseTableaux7
import Derived.Test.YtcegeleoicjciaaDoorQFnExactParseTableaux8
namespace Go.Proofs.YtcegeleoicjciaaDoor.QFnExactParseTableau
open Go.Proofs.YtcegeleoicjciaaDoor.Short Go.RowKit Go.Proofs.YtcegeleoicjciaaDoorW.PrintWords Go.Proofs.YtcegeleoicjciaaDoorW.PrintLast Go.Proofs.YtcegeleoicjciaaDoorW.PrintMore
attribute [local go_sem] max2_int min2_int max_two min_two max_three min_three max_four min_four   -- for this text's walks alone
set_option linter.unusedVariables false
set_option linter.unusedSimpArgs false

/-! ### impl_IsTableau: function 67 -/
mutual
def impl_IsTableau.l0 : Nat → List (List Int) → Int → Int → List Int → List (List Int) → Option (Bool)
 | 0, _, _, _, _, _ => none
 | k + 1, x17, x18, x19, x271000, x271001 => if x19 < x18 then (if 0 ≤ x19 then (if x19 < (x17.length : Int) then (impl_IsTableau.l1 k x19 (rd_L1 x17 x19) x17 x18 x19 (rd_L1 x17 x19) ((rd_L1 x17 x19).length : Int) 0 x271000 x271001) else (none)) else (none)) else (some true)
def impl_IsTableau.l1 : Nat → Int → List Int → List (List Int) → Int → Int → List Int → Int → Int → List Int → List (List Int) → Option (Bool)
 | 0, _, _, _, _, _, _, _, _, _, _ => none
 | k + 1, x5, x6, x17, x18, x19, x24, x25, x26, x271000, x271001 => if x26 < x25 then (if 0 ≤ x26 then (if x26 < (x24.length : Int) then ((impl_within.f (rd x24 x26) 1 9).bind fun t281 => (if t281 = true then (if x26 > 0 then (if 0 ≤ (wrap64 (x26 - 1)) then (if (wrap64 (x26 - 1)) < (x6.length : Int) then (if (rd x24 x26) < (rd x6 (wrap64 (x26 - 1))) then (some false) else (if x5 > 0 then ((impl_at.f x271000 x5).bind fun t283 => ((impl_Tableau_entry.f x271000 x271001 (wrap64 (x5 - 1)) (wrap64 (t283 + x26))).bind fun t284 => (if (rd x24 x26) ≤ t284 then (some false) else (impl_IsTableau.l1 k x5 x6 x17 x18 x19 x24 x25 (wrap64 (x26 + 1)) x271000 x271001)))) else (impl_IsTableau.l1 k x5 x6 x17 x18 x19 x24 x25 (wrap64 (x26 + 1)) x271000 x271001))) else (none)) else (none)) else (if x5 > 0 then ((impl_at.f x271000 x5).bind fun t285 => ((impl_Tableau_entry.f x271000 x271001 (wrap64 (x5 - 1)) (wrap64 (t285 + x26))).bind fun t286 => (if (rd x24 x26) ≤ t286 then (some false) else (impl_IsTableau.l1 k x5 x6 x17 x18 x19 x24 x25 (wrap64 (x26 + 1)) x271000 x271001)))) else (impl_IsTableau.l1 k x5 x6 x17 x18 x19 x24 x25 (wrap64 (x26 + 1)) x271000 x271001))) else (some false))) else (none)) else (none)) else (impl_IsTableau.l0 k x17 x18 (wrap64 (x19 + 1)) x271000 x271001)
end
def impl_IsTableau.f (k : Nat) (l0_0 : List Int) (l0_1 : List (List Int)) : Option (Bool) := (impl_ShapeOf.f k l0_0 l0_1).bind fun bt271 => (if bt271.2.2 = true then (impl_IsTableau.l0 k l0_1 (l0_1.length : Int) 0 l0_0 l0_1) else (some false))
theorem impl_IsTableau.mono_l : ∀ k, (∀ y0 y1 y2 y3 y4, LeO (impl_IsTableau.l0 k y0 y1 y2 y3 y4) (impl_IsTableau.l0 (k + 1) y0 y1 y2 y3 y4)) ∧ (∀ y0 y1 y2 y3 y4 y5 y6 y7 y8 y9, LeO (impl_IsTableau.l1 k y0 y1 y2 y3 y4 y5 y6 y7 y8 y9) (impl_IsTableau.l1 (k + 1) y0 y1 y2 y3 y4 y5 y6 y7 y8 y9))
 | 0 => ⟨fun _ _ _ _ _ r h => by simp [impl_IsTableau.l0] at h, fun _ _ _ _ _ _ _ _ _ _ r h => by simp [impl_IsTableau.l1] at h⟩
 | k + 1 => by
  obtain ⟨ih0, ih1⟩ := impl_IsTableau.mono_l k
  refine ⟨?_, ?_⟩
  ·intro y0 y1 y2 y3 y4
   unfold impl_IsTableau.l0
   repeat' first
   | (with_reducible exact ih0 _ _ _ _ _)
   | (with_reducible exact ih1 _ _ _ _ _ _ _ _ _ _)
   | (with_reducible exact impl_ShapeOf.mono _ _ _)
   | (with_reducible exact LeO.refl _)
   | (with_reducible exact LeO.none _)
   | (with_reducible refine LeO.ite ?_ ?_)
   | (with_reducible refine LeO.bind ?_ (fun _ => ?_))
   | exact ih0 _ _ _ _ _
   | exact ih1 _ _ _ _ _ _ _ _ _ _
   | exact impl_ShapeOf.mono _ _ _
   | exact LeO.none _
   | refine LeO.ite ?_ ?_
   | refine LeO.bind ?_ (fun _ => ?_)
  ·intro y0 y1 y2 y3 y4 y5 y6 y7 y8 y9
   unfold impl_IsTableau.l1
   repeat' first
   | (with_reducible exact ih0 _ _ _ _ _)
   | (with_reducible exact ih1 _ _ _ _ _ _ _ _ _ _)
   | (with_reducible exact impl_ShapeOf.mono _ _ _)
   | (with_reducible exact LeO.refl _)
   | (with_reducible exact LeO.none _)
   | (with_reducible refine LeO.ite ?_ ?_)
   | (with_reducible refine LeO.bind ?_ (fun _ => ?_))
   | exact ih0 _ _ _ _ _
   | exact ih1 _ _ _ _ _ _ _ _ _ _
   | exact impl_ShapeOf.mono _ _ _
   | exact LeO.none _
   | refine LeO.ite ?_ ?_
   | refine LeO.bind ?_ (fun _ => ?_)
theorem impl_IsTableau.mono : ∀ a0 a1 k, LeO (impl_IsTableau.f k a0 a1) (impl_IsTableau.f (k + 1) a0 a1) := by
 intro a0 a1 k
 obtain ⟨ih0, ih1⟩ := impl_IsTableau.mono_l k
 unfold impl_IsTableau.f
 repeat' first
   | (with_reducible exact ih0 _ _ _ _ _)
   | (with_reducible exact ih1 _ _ _ _ _ _ _ _ _ _)
   | (with_reducible exact impl_ShapeOf.mono _ _ _)
   | (with_reducible exact LeO.refl _)
   | (with_reducible exact LeO.none _)
   | (with_reducible refine LeO.ite ?_ ?_)
   | (with_reducible refine LeO.bind ?_ (fun _ => ?_))
   | exact ih0 _ _ _ _ _
   | exact ih1 _ _ _ _ _ _ _ _ _ _
   | exact impl_ShapeOf.mono _ _ _
   | exact LeO.none _
   | refine LeO.ite ?_ ?_
   | refine LeO.bind ?_ (fun _ => ?_)
def impl_IsTableau.T10 : Bool × List (List Nat × List Nat) := (true, [([], []), ([0], [0]), ([1], [1]), ([2, 1], [2]), ([3], [3]), ([4, 3], [3, 4]), ([5, 3, 3], [3, 5]), ([6], [6]), ([6], [6]), ([6], [6]), ([9, 6], [6, 9]), ([8, 10, 6], [6, 8, 10]), ([11, 6], [6, 11]), ([7, 12, 6], [6, 7, 12]), ([6, 13, 3], [3, 6, 13]), ([3, 14], [3, 14]), ([15, 6], [15]), ([16], [16]), ([17, 16], [16, 17]), ([18, 16, 16], [16, 18]), ([19], [19]), ([19], [19]), ([19], [19]), ([22, 19], [19, 22]), ([19], [19]), ([24, 19], [19, 24]), ([19], [19]), ([25, 26, 19, 19], [19, 25, 26]), ([19], [19]), ([27, 28, 19], [19, 27, 28]), ([21, 23, 29, 27, 19], [19, 21, 23, 29]), ([20, 30, 19], [19, 20, 30]), ([19, 31, 16], [16, 19, 31]), ([16, 32], [16, 32])])
def impl_IsTableau.B10 : List Nat := [0, 1, 3, 7, 15, 31, 63, 127, 127, 127, 639, 1919, 3967, 8191, 16383, 32767, 65535, 131071, 262143, 524287, 1048575, 1048575, 1048575, 5242879, 1048575, 17825791, 1048575, 118489087, 1048575, 521142271, 1072693247, 2147483647, 4294967295, 8589934591]
theorem impl_IsTableau.tab10 : rtab .any (opsOf Tryd.f67 10) = impl_IsTableau.T10 := by kernel_rfl
theorem impl_IsTableau.bits10 : waitsOk impl_IsTableau.T10.2 impl_IsTableau.B10 = true := by kernel_rfl
set_option maxHeartbeats 8000000 in
set_option maxRecDepth 100000 in
theorem impl_IsTableau.calls (k : Nat) (A0_0 : Option Addr) (c0_0 : Nat) (l0_0 : List Int) (A0_1 : Option Addr) (c0_1 : Nat) (l0_1 : List (List Int)) (r : Bool) (w : World) (hr0_0 : Kd.C (Kd.int .i64) w A0_0 l0_0.length l0_0) (hc0_0 : l0_0.length ≤ c0_0) (hr0_1 : Kd.C (Kd.slice 3 (Kd.int .i64)) w A0_1 l0_1.length l0_1) (hc0_1 : l0_1.length ≤ c0_1) (h : impl_IsTableau.f k l0_0 l0_1 = some r) :
  Calls Tryd.prog 67 #[.agg #[.slice A0_0 l0_0.length c0_0, .slice A0_1 l0_1.length c0_1]] w fun e w' => e = .returned (.bool r) ∧ Below w.heap.size w w' := by
 have hu50 := Tryd.underlying50
 have hu38 := Tryd.underlying38
 have HR0_0 := Aside0.mk hr0_0
 have HC0_0 := Aside0.mk hc0_0
 clear hr0_0 hc0_0
 have HR0_1 := Aside0.mk hr0_1
 have HC0_1 := Aside0.mk hc0_1
 clear hr0_1 hc0_1
 have HB := Aside0.mk (Below.refl w.heap.size w)
 have H : ((impl_ShapeOf.f k l0_0 l0_1).bind fun bt271 => (if bt271.2.2 = true then (impl_IsTableau.l0 k l0_1 (l0_1.length : Int) 0 l0_0 l0_1) else (some false))) = some r := h
 clear h
 replace H := Option.bind_eq_some_iff.mp H
 obtain ⟨⟨t271, t274, t277⟩, A20, H⟩ := H
 replace H : (if t277 = true then (impl_IsTableau.l0 k l0_1 (l0_1.length : Int) 0 l0_0 l0_1) else (some false)) = some r := H
 have A2 := Aside0.mk A20
 clear A20
 by_cases c3 : t277 = true
 ·subst c3
  have H1 : (impl_IsTableau.l0 k l0_1 (l0_1.length : Int) 0 l0_0 l0_1) = some r := by rw [if_pos rfl] at H; exact H
  clear H
  have H := H1
  clear H1
  have H' := Aside0.mk H
  clear H
  go_enter Tryd.func67, Tryd.ntmps67
  go_wp2_with (first | ((with_reducible refine gate_dst (N := 1) rfl ?_); refine box_event ?hg (N := 1) ?hd (cs := #[.slice A0_0 l0_0.length c0_0, .slice A0_1 l0_1.length c0_1]) (t := 50) ?hr ?_; (case hd => rfl); (case hg => rfl); (case hr => first | (go_simp; done) | (go_simp; rfl)); intro gb270 hg w4 hbox hb; have n0_ := Aside0.mk (below_step bnow hb); have n1_ := Aside0.mk (hbox); have n2_ := Aside0.mk ((by rw [hg]; exact (below_size bnow) : w.heap.size ≤ gb270)); have n3_ := Aside0.mk ((by rw [hg]; exact (below_size bnow) : w.heap.size ≤ gb270)); clear HB; have HB := n0_; have BK270 := n1_; have GW270 := n2_; have GE270 := n3_; clear n0_ n1_ n2_ n3_; clear hb hbox hg; have hcz5_0 : w4.cell? ⟨gb270, 0, none⟩ = some (.slice A0_0 l0_0.length c0_0) := (blk_cell BK270.out 0).trans rfl; have hcz5_1 : w4.cell? ⟨gb270, 1, none⟩ = some (.slice A0_1 l0_1.length c0_1) := (blk_cell BK270.out 1).trans rfl; have hfz5_0 := blk_frozen BK270.out 0; have hfz5_1 := blk_frozen BK270.out 1) | ((with_reducible refine gate_callee (f := 85) rfl ?_); refine goesL_ (some 11) rfl rfl Tryd.func85 (by kernel_rfl) rfl #[.agg #[.slice A0_0 l0_0.length c0_0, .slice A0_1 l0_1.length c0_1]] rfl lm ?_; (with_reducible refine (impl_ShapeOf.calls k _ _ l0_0 _ _ l0_1 t271 t274 true _ ?side1 ?side2 ?side3 ?side4 A2.out).mono ?_); (case side1 => exact cb HR0_0.out); (case side2 => exact HC0_0.out); (case side3 => exact cb HR0_1.out); (case side4 => exact HC0_1.out); rintro e w6 ⟨v272, v275, rfl, ho0, ho1, hb⟩; refine ⟨_, rfl, ?_⟩; have n0_ := Aside0.mk (Kd.R_lower ho0 (below_size bset)); have n1_ := Aside0.mk (Kd.R_lower ho1 (below_size bset)); have n2_ := Aside0.mk (blk_below (bk BK270.out) hb); have n3_ := Aside0.mk (below_step bset hb); clear BK270; clear HB; have HO273 := n0_; have HO276 := n1_; have BK270 := n2_; have HB := n3_; clear n0_ n1_ n2_ n3_; (try clear hb); (try clear hb2); (try clear hk); (try clear hi); (try clear ho0); (try clear ho1)) | ((with_reducible refine gate_dst (N := 3) rfl ?_); refine box_event ?hg (N := 3) ?hd (cs := #[.slice none 0 0, .slice none 0 0]) (t := 38) ?hr ?_; (case hd => rfl); (case hg => rfl); (case hr => first | (go_simp; done) | (go_simp; rfl)); intro gb278 hg w7 hbox hb; have n0_ := Aside0.mk (Kd.R_below (rk HO273.out) hb); have n1_ := Aside0.mk (Kd.R_below (rk HO276.out) hb); have n2_ := Aside0.mk (blk_below (bk BK270.out) hb); have n3_ := Aside0.mk (below_step bset hb); have n4_ := Aside0.mk (hbox); have n5_ := Aside0.mk ((by rw [hg]; exact (below_size bset) : w.heap.size ≤ gb278)); have n6_ := Aside0.mk ((by rw [hg]; exact (below_size bset) : w.heap.size ≤ gb278)); have n7_ := Aside0.mk ((by rw [hg]; exact Nat.ne_of_lt (blk_lt (g := gb270) (o := .cells #[.slice A0_0 l0_0.length c0_0, .slice A0_1 l0_1.length c0_1] 50 (0, 0)) (bk BK270.out)) : gb270 ≠ gb278)); have n8_ := Aside0.mk ((by rw [hg]; exact Nat.ne_of_gt (blk_lt (g := gb270) (o := .cells #[.slice A0_0 l0_0.length c0_0, .slice A0_1 l0_1.length c0_1] 50 (0, 0)) (bk BK270.out)) : gb278 ≠ gb270)); clear HO273; clear HO276; clear BK270; clear HB; have HO273 := n0_; have HO276 := n1_; have BK270 := n2_; have HB := n3_; have BK278 := n4_; have GW278 := n5_; have GE278 := n6_; have NB270_278 := n7_; have NB278_270 := n8_; clear n0_ n1_ n2_ n3_ n4_ n5_ n6_ n7_ n8_; clear hb hbox hg; obtain ⟨Ao8, co8, eo8⟩ := Kd.R_slice HO273.out; subst eo8; have hnb9 := NB278_270.out; have hnc9 := NB270_278.out; have hcz10_0 : w7.cell? ⟨gb278, 0, none⟩ = some (.slice none 0 0) := (blk_cell BK278.out 0).trans rfl; have hcz10_1 : w7.cell? ⟨gb278, 1, none⟩ = some (.slice none 0 0) := (blk_cell BK278.out 1).trans rfl; have hfz10_0 := blk_frozen BK278.out 0; have hfz10_1 := blk_frozen BK278.out 1; obtain ⟨Ao11, co11, eo11⟩ := Kd.R_slice HO276.out; subst eo11; have hcz12_0 : w7.cell? ⟨gb270, 0, none⟩ = some (.slice A0_0 l0_0.length c0_0) := (blk_cell BK270.out 0).trans rfl; have hcz12_1 : w7.cell? ⟨gb270, 1, none⟩ = some (.slice A0_1 l0_1.length c0_1) := (blk_cell BK270.out 1).trans rfl; have hfz12_0 := blk_frozen BK270.out 0; have hfz12_1 := blk_frozen BK270.out 1))
  go_loopg [19] k (fun kq v19 w' => ∃ (x19_1 : Int), v19 = .int .i64 x19_1 ∧ Aside0 (impl_IsTableau.l0 kq l0_1 (l0_1.length : Int) x19_1 l0_0 l0_1 = some r) ∧ Aside0 (kq ≤ k) ∧ Aside0 (Kd.R (Kd.int .i64) 3 w' w.heap.size (fun k_ => some k_ ≠ ((.slice Ao11 t274.length co11) : Value).ownBlock) (.slice Ao8 t271.length co8) t271) ∧ Aside0 (Kd.R (Kd.int .i64) 3 w' w.heap.size (fun k_ => some k_ ≠ ((.slice Ao8 t271.length co8) : Value).ownBlock) (.slice Ao11 t274.length co11) t274) ∧ Aside0 (w'.heap[gb270]? = some (.cells #[(.slice A0_0 l0_0.length c0_0), (.slice A0_1 l0_1.length c0_1)] 50 (0, 0))) ∧ Aside0 (w'.heap[gb278]? = some (.cells #[(.slice Ao8 t271.length co8), (.slice Ao11 t274.length co11)] 38 (0, 0))) ∧ Aside0 (Below w.heap.size w w'))
  case atStart => exact ⟨(0), (by first | rfl | (simp; done) | (simp [*]; done)), H', ⟨Nat.le_refl _⟩, ⟨by (with_reducible repeat (first | apply Kd.R_alloc | apply Kd.R_drewN | apply Kd.R_drew)); exact Kd.R_mono (Kd.R_far (p := ⟨gb278, 1, none⟩) (Kd.R_far (p := ⟨gb278, 0, none⟩) (Kd.R_types HO273.out BK278.out (by decide)) (fun _ hk => hk.2) (.slice Ao8 t271.length co8)) (fun _ hk => hk.2) (.slice Ao11 t274.length co11)) (fun _ hk => hk.1)⟩, ⟨by (with_reducible repeat (first | apply Kd.R_alloc | apply Kd.R_drewN | apply Kd.R_drew)); exact Kd.R_mono (Kd.R_far (p := ⟨gb278, 1, none⟩) (Kd.R_far (p := ⟨gb278, 0, none⟩) (Kd.R_types HO276.out BK278.out (by decide)) (fun _ hk => hk.2) (.slice Ao8 t271.length co8)) (fun _ hk => hk.2) (.slice Ao11 t274.length co11)) (fun _ hk => hk.1)⟩, ⟨by (with_reducible repeat (first | refine blk_drewN ?_ _ | refine blk_drew ?_ | refine blk_alloc ?_ _)); refine blk_far ?_ NB270_278.out _; (with_reducible repeat (first | refine blk_drewN ?_ _ | refine blk_drew ?_ | refine blk_alloc ?_ _)); refine blk_far ?_ NB270_278.out _; (with_reducible repeat (first | refine blk_drewN ?_ _ | refine blk_drew ?_ | refine blk_alloc ?_ _)); exact BK270.out⟩, ⟨by (with_reducible repeat (first | refine blk_drewN ?_ _ | refine blk_drew ?_ | refine blk_alloc ?_ _)); refine blk_put (cs := #[.slice Ao8 t271.length co8, .slice none 0 0]) ?_ 1 _ rfl; (with_reducible repeat (first | refine blk_drewN ?_ _ | refine blk_drew ?_ | refine blk_alloc ?_ _)); refine blk_put (cs := #[.slice none 0 0, .slice none 0 0]) ?_ 0 _ rfl; (with_reducible repeat (first | refine blk_drewN ?_ _ | refine blk_drew ?_ | refine blk_alloc ?_ _)); exact BK278.out⟩, ⟨bset⟩⟩
  case round =>
   clear H'
   try clear p2
   try clear c3
   try clear c6
   try clear c8
   try clear c9
   try clear hcz10_0
   try clear hcz10_1
   try clear hcz12_0
   try clear hcz12_1
   try clear hcz5_0
   try clear hcz5_1
   try clear hfz10_0
   try clear hfz10_1
   try clear hfz12_0
   try clear hfz12_1
   try clear hfz5_0
   try clear hfz5_1
   obtain ⟨x19_1, rfl, HA, HK1, HO_279000, HO_279001, BK270, BK278, HB⟩ := hrel
   cases gk with
   | zero => exact absurd HA.out (by simp [impl_IsTableau.l0])
   | succ k1 =>
    have H := HA.out
    clear HA
    simp only [impl_IsTableau.l0] at H
    by_cases c13 : x19_1 < (l0_1.length : Int)
    ·rw [if_pos c13] at H
     have c13b0 : decide (x19_1 < (l0_1.length : Int)) = true := decide_eq_true c13
     clear c13
     by_cases c14 : 0 ≤ x19_1
     ·rw [if_pos c14] at H
      have c14b0 : decide (0 ≤ x19_1) = true := decide_eq_true c14
      clear c14
      by_cases c15 : x19_1 < (l0_1.length : Int)
      ·rw [if_pos c15] at H
       have c15b0 : decide (x19_1 < (l0_1.length : Int)) = true := decide_eq_true c15
       clear c15
       have H' := Aside0.mk H
       clear H
       have p279 : 0 ≤ (x19_1 : Int) := of_decide_eq_true asm
       have q279 : x19_1 < (l0_1.length : Int) := of_decide_eq_true asm
       obtain ⟨ad279, A279_0, c279_0, e279, hx279_0, hl279_0, hi279_0⟩ := at_L1 HR0_1.out x19_1 p279 q279
       cases e279
       (first | replace hx279_0 := (HB.out.cell (World.block_lt_of_cell? w _ hx279_0)).trans hx279_0 | skip)
       have HR279_0 := Aside0.mk hi279_0
       have HC279_0 := Aside0.mk hl279_0
       clear hi279_0 hl279_0
       replace p279 := eq_true p279
       replace q279 := eq_true q279
       go_wp2
       go_loopg [26] k1 (fun kq v26 w' => ∃ (x26_2 : Int), v26 = .int .i64 x26_2 ∧ Aside0 (impl_IsTableau.l1 kq x19_1 (rd_L1 l0_1 x19_1) l0_1 (l0_1.length : Int) x19_1 (rd_L1 l0_1 x19_1) ((rd_L1 l0_1 x19_1).length : Int) x26_2 l0_0 l0_1 = some r) ∧ Aside0 (kq ≤ k1) ∧ Aside0 (Kd.R (Kd.int .i64) 3 w' w.heap.size (fun k_ => some k_ ≠ ((.slice Ao11 t274.length co11) : Value).ownBlock) (.slice Ao8 t271.length co8) t271) ∧ Aside0 (Kd.R (Kd.int .i64) 3 w' w.heap.size (fun k_ => some k_ ≠ ((.slice Ao8 t271.length co8) : Value).ownBlock) (.slice Ao11 t274.length co11) t274) ∧ Aside0 (w'.heap[gb270]? = some (.cells #[(.slice A0_0 l0_0.length c0_0), (.slice (some ad279) l0_1.length c0_1)] 50 (0, 0))) ∧ Aside0 (w'.heap[gb278]? = some (.cells #[(.slice Ao8 t271.length co8), (.slice Ao11 t274.length co11)] 38 (0, 0))) ∧ Aside0 (Below w.heap.size w w'))
       case atStart => exact ⟨(0), (by first | rfl | (simp; done) | (simp [*]; done)), H', ⟨Nat.le_refl _⟩, ⟨rk HO_279000.out⟩, ⟨rk HO_279001.out⟩, ⟨bk BK270.out⟩, ⟨bk BK278.out⟩, ⟨bset⟩⟩
       case round =>
        clear H'
        try clear c1
        try clear c2
        try clear p2
        try clear q2
        try clear hx2
        try clear c3
        try clear c6
        try clear c8
        try clear c9
        try clear c13
        try clear c13b0
        try clear c14
        try clear c14b0
        try clear c15
        try clear c15b0
        try clear hcz10_0
        try clear hcz10_1
        try clear hcz12_0
        try clear hcz12_1
        try clear hcz5_0
        try clear hcz5_1
        try clear hfz10_0
        try clear hfz10_1
        try clear hfz12_0
        try clear hfz12_1
        try clear hfz5_0
        try clear hfz5_1
        try clear hx279_0
        try clear p2
        try clear p279
        try clear q279
        obtain ⟨x26_2, rfl, HA, HK2, HO_279000, HO_279001, BK270, BK278, HB⟩ := hrel
        cases gk with
        | zero => exact absurd HA.out (by simp [impl_IsTableau.l1])
        | succ k2 =>
         have H := HA.out
         clear HA
         simp only [impl_IsTableau.l1] at H
         by_cases c16 : x26_2 < ((rd_L1 l0_1 x19_1).length : Int)
         ·rw [if_pos c16] at H
          have c16b0 : decide (x26_2 < ((rd_L1 l0_1 x19_1).length : Int)) = true := decide_eq_true c16
          clear c16
          by_cases c17 : 0 ≤ x26_2
          ·rw [if_pos c17] at H
           have c17b0 : decide (0 ≤ x26_2) = true := decide_eq_true c17
           clear c17
           by_cases c18 : x26_2 < ((rd_L1 l0_1 x19_1).length : Int)
           ·rw [if_pos c18] at H
            have c18b0 : decide (x26_2 < ((rd_L1 l0_1 x19_1).length : Int)) = true := decide_eq_true c18
            clear c18
            replace H := Option.bind_eq_some_iff.mp H
            obtain ⟨t281, A190, H⟩ := H
            replace H : (if t281 = true then (if x26_2 > 0 then (if 0 ≤ (wrap64 (x26_2 - 1)) then (if (wrap64 (x26_2 - 1)) < ((rd_L1 l0_1 x19_1).length : Int) then (if (rd (rd_L1 l0_1 x19_1) x26_2) < (rd (rd_L1 l0_1 x19_1) (wrap64 (x26_2 - 1))) then (some false) else (if x19_1 > 0 then ((impl_at.f l0_0 x19_1).bind fun t283 => ((impl_Tableau_entry.f l0_0 l0_1 (wrap64 (x19_1 - 1)) (wrap64 (t283 + x26_2))).bind fun t284 => (if (rd (rd_L1 l0_1 x19_1) x26_2) ≤ t284 then (some false) else (impl_IsTableau.l1 k2 x19_1 (rd_L1 l0_1 x19_1) l0_1 (l0_1.length : Int) x19_1 (rd_L1 l0_1 x19_1) ((rd_L1 l0_1 x19_1).length : Int) (wrap64 (x26_2 + 1)) l0_0 l0_1)))) else (impl_IsTableau.l1 k2 x19_1 (rd_L1 l0_1 x19_1) l0_1 (l0_1.length : Int) x19_1 (rd_L1 l0_1 x19_1) ((rd_L1 l0_1 x19_1).length : Int) (wrap64 (x26_2 + 1)) l0_0 l0_1))) else (none)) else (none)) else (if x19_1 > 0 then ((impl_at.f l0_0 x19_1).bind fun t285 => ((impl_Tableau_entry.f l0_0 l0_1 (wrap64 (x19_1 - 1)) (wrap64 (t285 + x26_2))).bind fun t286 => (if (rd (rd_L1 l0_1 x19_1) x26_2) ≤ t286 then (some false) else (impl_IsTableau.l1 k2 x19_1 (rd_L1 l0_1 x19_1) l0_1 (l0_1.length : Int) x19_1 (rd_L1 l0_1 x19_1) ((rd_L1 l0_1 x19_1).length : Int) (wrap64 (x26_2 + 1)) l0_0 l0_1)))) else (impl_IsTableau.l1 k2 x19_1 (rd_L1 l0_1 x19_1) l0_1 (l0_1.length : Int) x19_1 (rd_L1 l0_1 x19_1) ((rd_L1 l0_1 x19_1).length : Int) (wrap64 (x26_2 + 1)) l0_0 l0_1))) else (some false)) = some r := H
            have A19 := Aside0.mk A190
            clear A190
            by_cases c20 : t281 = true
            ·subst c20
             have H1 : (if x26_2 > 0 then (if 0 ≤ (wrap64 (x26_2 - 1)) then (if (wrap64 (x26_2 - 1)) < ((rd_L1 l0_1 x19_1).length : Int) then (if (rd (rd_L1 l0_1 x19_1) x26_2) < (rd (rd_L1 l0_1 x19_1) (wrap64 (x26_2 - 1))) then (some false) else (if x19_1 > 0 then ((impl_at.f l0_0 x19_1).bind fun t283 => ((impl_Tableau_entry.f l0_0 l0_1 (wrap64 (x19_1 - 1)) (wrap64 (t283 + x26_2))).bind fun t284 => (if (rd (rd_L1 l0_1 x19_1) x26_2) ≤ t284 then (some false) else (impl_IsTableau.l1 k2 x19_1 (rd_L1 l0_1 x19_1) l0_1 (l0_1.length : Int) x19_1 (rd_L1 l0_1 x19_1) ((rd_L1 l0_1 x19_1).length : Int) (wrap64 (x26_2 + 1)) l0_0 l0_1)))) else (impl_IsTableau.l1 k2 x19_1 (rd_L1 l0_1 x19_1) l0_1 (l0_1.length : Int) x19_1 (rd_L1 l0_1 x19_1) ((rd_L1 l0_1 x19_1).length : Int) (wrap64 (x26_2 + 1)) l0_0 l0_1))) else (none)) else (none)) else (if x19_1 > 0 then ((impl_at.f l0_0 x19_1).bind fun t285 => ((impl_Tableau_entry.f l0_0 l0_1 (wrap64 (x19_1 - 1)) (wrap64 (t285 + x26_2))).bind fun t286 => (if (rd (rd_L1 l0_1 x19_1) x26_2) ≤ t286 then (some false) else (impl_IsTableau.l1 k2 x19_1 (rd_L1 l0_1 x19_1) l0_1 (l0_1.length : Int) x19_1 (rd_L1 l0_1 x19_1) ((rd_L1 l0_1 x19_1).length : Int) (wrap64 (x26_2 + 1)) l0_0 l0_1)))) else (impl_IsTableau.l1 k2 x19_1 (rd_L1 l0_1 x19_1) l0_1 (l0_1.length : Int) x19_1 (rd_L1 l0_1 x19_1) ((rd_L1 l0_1 x19_1).length : Int) (wrap64 (x26_2 + 1)) l0_0 l0_1))) = some r := by rw [if_pos rfl] at H; exact H
             clear H
             have H := H1
             clear H1
             by_cases c21 : x26_2 > 0
             ·rw [if_pos c21] at H
              have c21b0 : decide (0 < x26_2) = true := decide_eq_true c21
              clear c21
              obtain ⟨ji22, hji22⟩ : ∃ j_ : Int, (wrap64 (x26_2 - 1)) = j_ := ⟨_, rfl⟩
              replace H : (if 0 ≤ (ji22) then (if (ji22) < ((rd_L1 l0_1 x19_1).length : Int) then (if (rd (rd_L1 l0_1 x19_1) x26_2) < (rd (rd_L1 l0_1 x19_1) (ji22)) then (some false) else (if x19_1 > 0 then ((impl_at.f l0_0 x19_1).bind fun t283 => ((impl_Tableau_entry.f l0_0 l0_1 (wrap64 (x19_1 - 1)) (wrap64 (t283 + x26_2))).bind fun t284 => (if (rd (rd_L1 l0_1 x19_1) x26_2) ≤ t284 then (some false) else (impl_IsTableau.l1 k2 x19_1 (rd_L1 l0_1 x19_1) l0_1 (l0_1.length : Int) x19_1 (rd_L1 l0_1 x19_1) ((rd_L1 l0_1 x19_1).length : Int) (wrap64 (x26_2 + 1)) l0_0 l0_1)))) else (impl_IsTableau.l1 k2 x19_1 (rd_L1 l0_1 x19_1) l0_1 (l0_1.length : Int) x19_1 (rd_L1 l0_1 x19_1) ((rd_L1 l0_1 x19_1).length : Int) (wrap64 (x26_2 + 1)) l0_0 l0_1))) else (none)) else (none)) = some r := by first | (rw [hji22] at H; exact H) | (simp only [hji22] at H ⊢; exact H)
              (try rw [hji22] at A19)
              have hji22w : (IntKind.i64.wrap (x26_2 - 1)) = ji22 := (i64_w _).trans hji22
              by_cases c23 : 0 ≤ (ji22)
              ·rw [if_pos c23] at H
               have c23b0 : decide (0 ≤ (ji22)) = true := decide_eq_true c23
               clear c23
               by_cases c24 : (ji22) < ((rd_L1 l0_1 x19_1).length : Int)
               ·rw [if_pos c24] at H
                have c24b0 : decide ((ji22) < ((rd_L1 l0_1 x19_1).length : Int)) = true := decide_eq_true c24
                clear c24
                by_cases c25 : (rd (rd_L1 l0_1 x19_1) x26_2) < (rd (rd_L1 l0_1 x19_1) (ji22))
                ·rw [if_pos c25] at H
                 have c25b0 : decide ((rd (rd_L1 l0_1 x19_1) x26_2) < (rd (rd_L1 l0_1 x19_1) (ji22))) = true := decide_eq_true c25
                 clear c25
                 obtain rfl := Option.some.inj H
                 have p280 : 0 ≤ (x26_2 : Int) := of_decide_eq_true asm
                 have q280 : x26_2 < ((rd_L1 l0_1 x19_1).length : Int) := of_decide_eq_true asm
                 obtain ⟨ad280, e280, hx280_0⟩ := Kd.at_int HR279_0.out x26_2 p280 q280
                 cases e280
                 (first | replace hx280_0 := (HB.out.cell (World.block_lt_of_cell? w _ hx280_0)).trans hx280_0 | skip)
                 replace p280 := eq_true p280
                 replace q280 := eq_true q280
                 try go_wp2
                 have n0_ := Aside0.mk (Kd.R_drew HO_279000.out)
                 have n1_ := Aside0.mk (Kd.R_drew HO_279001.out)
                 have n2_ := Aside0.mk (blk_drew BK270.out)
                 have n3_ := Aside0.mk (blk_drew BK278.out)
                 have n4_ := Aside0.mk (below_drew1 HB.out)
                 clear HO_279000
                 clear HO_279001
                 clear BK270
                 clear BK278
                 clear HB
                 have HO_279000 := n0_
                 have HO_279001 := n1_
                 have BK270 := n2_
                 have BK278 := n3_
                 have HB := n4_
                 clear n0_ n1_ n2_ n3_ n4_
                 have p282 : 0 ≤ ((ji22) : Int) := of_decide_eq_true asm
                 have q282 : (ji22) < ((rd_L1 l0_1 x19_1).length : Int) := of_decide_eq_true asm
                 obtain ⟨ad282, e282, hx282_0⟩ := Kd.at_int HR279_0.out (ji22) p282 q282
                 have hw282_0 := hx282_0
                 obtain rfl : ad280 = ad282 := (by injection e282)
                 (first | replace hx282_0 := (HB.out.cell (World.block_lt_of_cell? w _ hx282_0)).trans hx282_0 | skip)
                 replace p282 := eq_true p282
                 replace q282 := eq_true q282
                 refine start_ (n := 34) (S := fun w' => w'.cell? (ad280.add ((ji22)).toNat) = some (.int .i64 (rd (rd_L1 l0_1 x19_1) (ji22)))) (ds := []) (tf 34 0) (by kernel_rfl) rfl rfl (((HB.out.cell (World.block_lt_of_cell? w _ hw282_0)).trans hw282_0)) (fun hHeld => ?_); refine with_tabW impl_IsTableau.tab10 impl_IsTableau.bits10 (fun HT_ HW_ => ?_)
                 generalize wr.drew = w26 at HO_279000 HO_279001 BK270 BK278 HB hx282_0 hHeld ⊢
                 refine pure1 0 31 (tf 34 1) (ay HT_.out) ?_
                 refine one_ (i := 1) (N := some 32) (tf 34 2) rfl rfl (one_of HT_.out (by kernel_rfl)) (by decide) (fun K hK => ?_)
                 refine goes_ Tryd.func79 (by kernel_rfl) rfl #[.int .i64 (rd (rd_L1 l0_1 x19_1) x26_2), .int .i64 1, .int .i64 9] (by rfl) rfl rfl lm ?_
                 with_reducible refine (impl_within.calls (rd (rd_L1 l0_1 x19_1) x26_2) 1 9 true _ A19.out).mono ?_
                 rintro e w' ⟨rfl, ⟨nd, rfl⟩⟩
                 refine ⟨_, rfl, ?_⟩
                 refine hK.out _ _ (((HB.out.cell (World.block_lt_of_cell? w _ hw282_0)).trans hw282_0)) (fun hHeld => ?_)
                 clear hK K
                 refine norm1 ?_
                 refine pure1 2 33 (tf 34 3) (ay HT_.out) ?_
                 refine pure1 3 34 (tf 34 4) (ay HT_.out) ?_
                 refine pure1 4 35 (tf 34 5) (ay HT_.out) ?_
                 refine pure1 5 36 (tf 34 6) (ay HT_.out) ?_
                 refine pure1 6 37 (tf 34 7) (ay HT_.out) ?_
                 refine pure1 7 38 (tf 34 8) (ay HT_.out) ?_
                 refine pure1 8 39 (tf 34 9) (ay HT_.out) ?_
                 refine pure1 9 40 (tf 34 10) (ay HT_.out) ?_
                 refine pure1 10 41 (tf 34 11) (ay HT_.out) ?_
                 refine pure1 11 42 (tf 34 12) (ay HT_.out) ?_
                 refine take_ (i := 12) (N := some 43) (v := ?_) (a' := ?_) (tf 34 13) rfl rfl (take_ofW HT_.out HW_.out (by kernel_rfl)) (fun _ _ _ h => h) (Or.inl ⟨by rfl, ?_⟩) hHeld ?_ ?_
                 rotate_left
                 ·intro w' s0
                  go_simp
                  with_reducible rfl
                 rotate_left
                 ·simp only [Act.put, List.setIfInBounds_toArray, List.set_cons_zero, List.set_cons_succ, i64_w, i32_w]
                  rfl
                 refine pure1 13 44 (tf 34 14) (ay HT_.out) ?_
                 refine pure1 14 45 (tf 34 15) (ay HT_.out) ?_
                 refine pure1 15 46 (tf 34 16) (ay HT_.out) ?_
                 refine pure1 16 47 (tf 34 17) (ay HT_.out) ?_
                 refine pure2 17 48 (tf 34 18) (ay HT_.out) ?_
                 refine pure2 18 49 (tf 34 19) (ay HT_.out) ?_
                 refine pure2 19 50 (tf 34 20) (ay HT_.out) ?_
                 refine pure2 20 51 (tf 34 21) (ay HT_.out) ?_
                 refine pure2 21 52 (tf 34 22) (ay HT_.out) ?_
                 refine pure2 22 53 (tf 34 23) (ay HT_.out) ?_
                 refine pure2 23 54 (tf 34 24) (ay HT_.out) ?_
                 refine pure2 24 55 (tf 34 25) (ay HT_.out) ?_
                 refine pure2 25 56 (tf 34 26) (ay HT_.out) ?_
                 refine pure2 26 57 (tf 34 27) (ay HT_.out) ?_
                 refine pure2 27 58 (tf 34 28) (ay HT_.out) ?_
                 refine pure2 28 59 (tf 34 29) (ay HT_.out) ?_
                 refine pure2 29 60 (tf 34 30) (ay HT_.out) ?_
                 refine pure2 30 61 (tf 34 31) (ay HT_.out) ?_
                 refine pure2 31 62 (tf 34 32) (ay HT_.out) ?_
                 refine pure2 32 63 (tf 34 33) (ay HT_.out) ?_
                 refine pure1 33 64 (tf 34 34) (ay HT_.out) ?_
                 refine done_ (done_of HT_.out (by kernel_rfl)) ?_
                 try go_wp2
                 go_ret
                 exact ⟨by first | rfl | (simp [errW_none, errW_some] <;> rfl) | (simp only [← hji22]; first | rfl | (simp [errW_none, errW_some] <;> rfl)) | (simp [*, errW_none, errW_some] <;> rfl), bset⟩
                ·rw [if_neg c25] at H
                 have c25b0 : decide ((rd (rd_L1 l0_1 x19_1) x26_2) < (rd (rd_L1 l0_1 x19_1) (ji22))) = false := decide_eq_false c25
                 clear c25
                 by_cases c27 : x19_1 > 0
                 ·rw [if_pos c27] at H
                  have c27b0 : decide (0 < x19_1) = true := decide_eq_true c27
                  clear c27
                  replace H := Option.bind_eq_some_iff.mp H
                  obtain ⟨t283, A280, H⟩ := H
                  replace H : ((impl_Tableau_entry.f l0_0 l0_1 (wrap64 (x19_1 - 1)) (wrap64 (t283 + x26_2))).bind fun t284 => (if (rd (rd_L1 l0_1 x19_1) x26_2) ≤ t284 then (some false) else (impl_IsTableau.l1 k2 x19_1 (rd_L1 l0_1 x19_1) l0_1 (l0_1.length : Int) x19_1 (rd_L1 l0_1 x19_1) ((rd_L1 l0_1 x19_1).length : Int) (wrap64 (x26_2 + 1)) l0_0 l0_1))) = some r := H
                  have A28 := Aside0.mk A280
                  clear A280
                  replace H := Option.bind_eq_some_iff.mp H
                  obtain ⟨t284, A290, H⟩ := H
                  replace H : (if (rd (rd_L1 l0_1 x19_1) x26_2) ≤ t284 then (some false) else (impl_IsTableau.l1 k2 x19_1 (rd_L1 l0_1 x19_1) l0_1 (l0_1.length : Int) x19_1 (rd_L1 l0_1 x19_1) ((rd_L1 l0_1 x19_1).length : Int) (wrap64 (x26_2 + 1)) l0_0 l0_1)) = some r := H
                  have A29 := Aside0.mk A290
                  clear A290
                  by_cases c30 : (rd (rd_L1 l0_1 x19_1) x26_2) ≤ t284
                  ·rw [if_pos c30] at H
                   have c30b0 : decide ((rd (rd_L1 l0_1 x19_1) x26_2) ≤ t284) = true := decide_eq_true c30
                   clear c30
                   obtain rfl := Option.some.inj H
                   have p280 : 0 ≤ (x26_2 : Int) := of_decide_eq_true asm
                   have q280 : x26_2 < ((rd_L1 l0_1 x19_1).length : Int) := of_decide_eq_true asm
                   obtain ⟨ad280, e280, hx280_0⟩ := Kd.at_int HR279_0.out x26_2 p280 q280
                   cases e280
                   (first | replace hx280_0 := (HB.out.cell (World.block_lt_of_cell? w _ hx280_0)).trans hx280_0 | skip)
                   replace p280 := eq_true p280
                   replace q280 := eq_true q280
                   try go_wp2
                   have n0_ := Aside0.mk (Kd.R_drew HO_279000.out)
                   have n1_ := Aside0.mk (Kd.R_drew HO_279001.out)
                   have n2_ := Aside0.mk (blk_drew BK270.out)
                   have n3_ := Aside0.mk (blk_drew BK278.out)
                   have n4_ := Aside0.mk (below_drew1 HB.out)
                   clear HO_279000
                   clear HO_279001
                   clear BK270
                   clear BK278
                   clear HB
                   have HO_279000 := n0_
                   have HO_279001 := n1_
                   have BK270 := n2_
                   have BK278 := n3_
                   have HB := n4_
                   clear n0_ n1_ n2_ n3_ n4_
                   have p282 : 0 ≤ ((ji22) : Int) := of_decide_eq_true asm
                   have q282 : (ji22) < ((rd_L1 l0_1 x19_1).length : Int) := of_decide_eq_true asm
                   obtain ⟨ad282, e282, hx282_0⟩ := Kd.at_int HR279_0.out (ji22) p282 q282
                   have hw282_0 := hx282_0
                   obtain rfl : ad280 = ad282 := (by injection e282)
                   (first | replace hx282_0 := (HB.out.cell (World.block_lt_of_cell? w _ hx282_0)).trans hx282_0 | skip)
                   replace p282 := eq_true p282
                   replace q282 := eq_true q282
                   refine start_ (n := 34) (S := fun w' => w'.cell? ⟨gb270, 0, none⟩ = some (.slice A0_0 l0_0.length c0_0) ∧ w'.cell? ⟨gb270, 1, none⟩ = some (.slice (some ad279) l0_1.length c0_1) ∧ w'.cell? (ad280.add ((ji22)).toNat) = some (.int .i64 (rd (rd_L1 l0_1 x19_1) (ji22)))) (ds := []) (tf 34 0) (by kernel_rfl) rfl rfl ⟨(blk_cell BK270.out 0).trans rfl, (blk_cell BK270.out 1).trans rfl, ((HB.out.cell (World.block_lt_of_cell? w _ hw282_0)).trans hw282_0)⟩ (fun hHeld => ?_); refine with_tabW impl_IsTableau.tab10 impl_IsTableau.bits10 (fun HT_ HW_ => ?_)
                   generalize wr.drew = w31 at HO_279000 HO_279001 BK270 BK278 HB hx282_0 hHeld ⊢
                   refine pure1 0 31 (tf 34 1) (ay HT_.out) ?_
                   refine one_ (i := 1) (N := some 32) (tf 34 2) rfl rfl (one_of HT_.out (by kernel_rfl)) (by decide) (fun K hK => ?_)
                   refine goes_ Tryd.func79 (by kernel_rfl) rfl #[.int .i64 (rd (rd_L1 l0_1 x19_1) x26_2), .int .i64 1, .int .i64 9] (by rfl) rfl rfl lm ?_
                   with_reducible refine (impl_within.calls (rd (rd_L1 l0_1 x19_1) x26_2) 1 9 true _ A19.out).mono ?_
                   rintro e w' ⟨rfl, ⟨nd, rfl⟩⟩
                   refine ⟨_, rfl, ?_⟩
                   refine hK.out _ _ ⟨(blk_cell BK270.out 0).trans rfl, (blk_cell BK270.out 1).trans rfl, ((HB.out.cell (World.block_lt_of_cell? w _ hw282_0)).trans hw282_0)⟩ (fun hHeld => ?_)
                   clear hK K
                   refine norm1 ?_
                   refine pure1 2 33 (tf 34 3) (ay HT_.out) ?_
                   refine pure1 3 34 (tf 34 4) (ay HT_.out) ?_
                   refine pure1 4 35 (tf 34 5) (ay HT_.out) ?_
                   refine pure1 5 36 (tf 34 6) (ay HT_.out) ?_
                   refine pure1 6 37 (tf 34 7) (ay HT_.out) ?_
                   refine pure1 7 38 (tf 34 8) (ay HT_.out) ?_
                   refine pure1 8 39 (tf 34 9) (ay HT_.out) ?_
                   refine pure1 9 40 (tf 34 10) (ay HT_.out) ?_
                   refine pure1 10 41 (tf 34 11) (ay HT_.out) ?_
                   refine pure1 11 42 (tf 34 12) (ay HT_.out) ?_
                   refine take_ (i := 12) (N := some 43) (v := ?_) (a' := ?_) (tf 34 13) rfl rfl (take_ofW HT_.out HW_.out (by kernel_rfl)) (fun _ _ _ h => h) (Or.inl ⟨by rfl, ?_⟩) hHeld ?_ ?_
                   rotate_left
                   ·rintro w' ⟨s0, s1, s2⟩
                    go_simp
                    with_reducible rfl
                   rotate_left
                   ·simp only [Act.put, List.setIfInBounds_toArray, List.set_cons_zero, List.set_cons_succ, i64_w, i32_w]
                    rfl
                   refine pure1 13 44 (tf 34 14) (ay HT_.out) ?_
                   refine pure1 14 45 (tf 34 15) (ay HT_.out) ?_
                   refine pure1 15 46 (tf 34 16) (ay HT_.out) ?_
                   refine pure1 16 47 (tf 34 17) (ay HT_.out) ?_
                   refine pure1 17 48 (tf 34 18) (ay HT_.out) ?_
                   refine pure1 18 49 (tf 34 19) (ay HT_.out) ?_
                   refine pure1 19 50 (tf 34 20) (ay HT_.out) ?_
                   refine pure1 20 51 (tf 34 21) (ay HT_.out) ?_
                   refine pure1 22 53 #[true, true, true, true, true, true, true, true, true, true, true, true, true, true, true, true, true, true, true, true, true, false, true, false, false, false, false, false, false, false, false, false, false, false] (ay HT_.out) ?_
                   refine pure1 23 54 #[true, true, true, true, true, true, true, true, true, true, true, true, true, true, true, true, true, true, true, true, true, false, true, true, false, false, false, false, false, false, false, false, false, false] (ay HT_.out) ?_
                   refine pure1 24 55 #[true, true, true, true, true, true, true, true, true, true, true, true, true, true, true, true, true, true, true, true, true, false, true, true, true, false, false, false, false, false, false, false, false, false] (ay HT_.out) ?_
                   refine pure1 26 57 #[true, true, true, true, true, true, true, true, true, true, true, true, true, true, true, true, true, true, true, true, true, false, true, true, true, false, true, false, false, false, false, false, false, false] (ay HT_.out) ?_
                   refine pure1 28 59 #[true, true, true, true, true, true, true, true, true, true, true, true, true, true, true, true, true, true, true, true, true, false, true, true, true, false, true, false, true, false, false, false, false, false] (ay HT_.out) ?_
                   refine take_ (i := 21) (N := some 52) (v := ?_) (a' := ?_) #[true, true, true, true, true, true, true, true, true, true, true, true, true, true, true, true, true, true, true, true, true, true, true, true, true, false, true, false, true, false, false, false, false, false] rfl rfl (take_ofW HT_.out HW_.out (by kernel_rfl)) (fun _ _ _ h => h) (Or.inl ⟨by rfl, ?_⟩) hHeld ?_ ?_
                   rotate_left
                   ·rintro w' ⟨s0, s1, s2⟩
                    go_simp
                    with_reducible rfl
                   rotate_left
                   ·simp only [Act.put, List.setIfInBounds_toArray, List.set_cons_zero, List.set_cons_succ, i64_w, i32_w]
                    rfl
                   refine take_ (i := 25) (N := some 56) (v := ?_) (a' := ?_) #[true, true, true, true, true, true, true, true, true, true, true, true, true, true, true, true, true, true, true, true, true, true, true, true, true, true, true, false, true, false, false, false, false, false] rfl rfl (take_ofW HT_.out HW_.out (by kernel_rfl)) (fun _ _ _ h => h) (Or.inl ⟨by rfl, ?_⟩) hHeld ?_ ?_
                   rotate_left
                   ·rintro w' ⟨s0, s1, s2⟩
                    go_simp
                    with_reducible rfl
                   rotate_left
                   ·simp only [Act.put, List.setIfInBounds_toArray, List.set_cons_zero, List.set_cons_succ, i64_w, i32_w]
                    rfl
                   refine one_ (i := 27) (N := some 58) (tf 34 29) rfl rfl (one_of HT_.out (by kernel_rfl)) (by decide) (fun K hK => ?_)
                   refine goes_ Tryd.func69 (by kernel_rfl) rfl #[.slice A0_0 l0_0.length c0_0, .int .i64 x19_1] (by rfl) rfl rfl lm ?_
                   with_reducible refine (impl_at.calls _ _ l0_0 x19_1 t283 _ ?side1 ?side2 A28.out).mono ?_
                   (case side1 => exact cb HR0_0.out)
                   (case side2 => exact HC0_0.out)
                   rintro e w' ⟨rfl, ⟨nd, rfl⟩⟩
                   refine ⟨_, rfl, ?_⟩
                   refine hK.out _ _ ⟨(blk_cell BK270.out 0).trans rfl, (blk_cell BK270.out 1).trans rfl, ((HB.out.cell (World.block_lt_of_cell? w _ hw282_0)).trans hw282_0)⟩ (fun hHeld => ?_)
                   clear hK K
                   refine norm1 ?_
                   refine pure1 29 60 (tf 34 30) (ay HT_.out) ?_
                   refine one_ (i := 30) (N := some 61) (tf 34 31) rfl rfl (one_of HT_.out (by kernel_rfl)) (by decide) (fun K hK => ?_)
                   refine goes_ Tryd.func86 (by kernel_rfl) rfl #[.agg #[.slice A0_0 l0_0.length c0_0, .slice (some ad279) l0_1.length c0_1], .int .i64 (wrap64 (x19_1 - 1)), .int .i64 (wrap64 (t283 + x26_2))] (by rfl) rfl rfl lm ?_
                   with_reducible refine (impl_Tableau_entry.calls _ _ l0_0 _ _ l0_1 (wrap64 (x19_1 - 1)) (wrap64 (t283 + x26_2)) t284 _ ?side1 ?side2 ?side3 ?side4 A29.out).mono ?_
                   (case side1 => exact cb HR0_0.out)
                   (case side2 => exact HC0_0.out)
                   (case side3 => exact cb HR0_1.out)
                   (case side4 => exact HC0_1.out)
                   rintro e w32 ⟨rfl, hb⟩
                   refine ⟨_, rfl, ?_⟩
                   have n0_ := Aside0.mk (Kd.R_below (rk HO_279000.out) hb)
                   have n1_ := Aside0.mk (Kd.R_below (rk HO_279001.out) hb)
                   have n2_ := Aside0.mk (blk_below (bk BK270.out) hb)
                   have n3_ := Aside0.mk (blk_below (bk BK278.out) hb)
                   have n4_ := Aside0.mk (below_step bset hb)
                   clear HO_279000
                   clear HO_279001
                   clear BK270
                   clear BK278
                   clear HB
                   have HO_279000 := n0_
                   have HO_279001 := n1_
                   have BK270 := n2_
                   have BK278 := n3_
                   have HB := n4_
                   clear n0_ n1_ n2_ n3_ n4_
                   (try clear hb)
                   (try clear hb2)
                   (try clear hk)
                   (try clear hi)
                   refine hK.out _ _ ⟨(blk_cell BK270.out 0).trans rfl, (blk_cell BK270.out 1).trans rfl, ((HB.out.cell (World.block_lt_of_cell? w _ hw282_0)).trans hw282_0)⟩ (fun hHeld => ?_)
                   clear hK K
                   refine norm1 ?_
                   refine pure1 31 62 (tf 34 32) (ay HT_.out) ?_
                   refine pure1 32 63 (tf 34 33) (ay HT_.out) ?_
                   refine pure1 33 64 (tf 34 34) (ay HT_.out) ?_
                   refine done_ (done_of HT_.out (by kernel_rfl)) ?_
                   try go_wp2
                   go_ret
                   exact ⟨by first | rfl | (simp [errW_none, errW_some] <;> rfl) | (simp only [← hji22]; first | rfl | (simp [errW_none, errW_some] <;> rfl)) | (simp [*, errW_none, errW_some] <;> rfl), bset⟩
                  ·rw [if_neg c30] at H
                   have c30b0 : decide ((rd (rd_L1 l0_1 x19_1) x26_2) ≤ t284) = false := decide_eq_false c30
                   clear c30
                   have H' := Aside0.mk H
                   clear H
                   have p280 : 0 ≤ (x26_2 : Int) := of_decide_eq_true asm
                   have q280 : x26_2 < ((rd_L1 l0_1 x19_1).length : Int) := of_decide_eq_true asm
                   obtain ⟨ad280, e280, hx280_0⟩ := Kd.at_int HR279_0.out x26_2 p280 q280
                   cases e280
                   (first | replace hx280_0 := (HB.out.cell (World.block_lt_of_cell? w _ hx280_0)).trans hx280_0 | skip)
                   replace p280 := eq_true p280
                   replace q280 := eq_true q280
                   try go_wp2
                   have n0_ := Aside0.mk (Kd.R_drew HO_279000.out)
                   have n1_ := Aside0.mk (Kd.R_drew HO_279001.out)
                   have n2_ := Aside0.mk (blk_drew BK270.out)
                   have n3_ := Aside0.mk (blk_drew BK278.out)
                   have n4_ := Aside0.mk (below_drew1 HB.out)
                   clear HO_279000
                   clear HO_279001
                   clear BK270
                   clear BK278
                   clear HB
                   have HO_279000 := n0_
                   have HO_279001 := n1_
                   have BK270 := n2_
                   have BK278 := n3_
                   have HB := n4_
                   clear n0_ n1_ n2_ n3_ n4_
                   have p282 : 0 ≤ ((ji22) : Int) := of_decide_eq_true asm
                   have q282 : (ji22) < ((rd_L1 l0_1 x19_1).length : Int) := of_decide_eq_true asm
                   obtain ⟨ad282, e282, hx282_0⟩ := Kd.at_int HR279_0.out (ji22) p282 q282
                   have hw282_0 := hx282_0
                   obtain rfl : ad280 = ad282 := (by injection e282)
                   (first | replace hx282_0 := (HB.out.cell (World.block_lt_of_cell? w _ hx282_0)).trans hx282_0 | skip)
                   replace p282 := eq_true p282
                   replace q282 := eq_true q282
                   refine start_ (n := 34) (S := fun w' => w'.cell? ⟨gb270, 0, none⟩ = some (.slice A0_0 l0_0.length c0_0) ∧ w'.cell? ⟨gb270, 1, none⟩ = some (.slice (some ad279) l0_1.length c0_1) ∧ w'.cell? (ad280.add ((ji22)).toNat) = some (.int .i64 (rd (rd_L1 l0_1 x19_1) (ji22)))) (ds := []) (tf 34 0) (by kernel_rfl) rfl rfl ⟨(blk_cell BK270.out 0).trans rfl, (blk_cell BK270.out 1).trans rfl, ((HB.out.cell (World.block_lt_of_cell? w _ hw282_0)).trans hw282_0)⟩ (fun hHeld => ?_); refine with_tabW impl_IsTableau.tab10 impl_IsTableau.bits10 (fun HT_ HW_ => ?_)
                   generalize wr.drew = w33 at HO_279000 HO_279001 BK270 BK278 HB hx282_0 hHeld ⊢
                   refine pure1 0 31 (tf 34 1) (ay HT_.out) ?_
                   refine one_ (i := 1) (N := some 32) (tf 34 2) rfl rfl (one_of HT_.out (by kernel_rfl)) (by decide) (fun K hK => ?_)
                   refine goes_ Tryd.func79 (by kernel_rfl) rfl #[.int .i64 (rd (rd_L1 l0_1 x19_1) x26_2), .int .i64 1, .int .i64 9] (by rfl) rfl rfl lm ?_
                   with_reducible refine (impl_within.calls (rd (rd_L1 l0_1 x19_1) x26_2) 1 9 true _ A19.out).mono ?_
                   rintro e w' ⟨rfl, ⟨nd, rfl⟩⟩
                   refine ⟨_, rfl, ?_⟩
                   refine hK.out _ _ ⟨(blk_cell BK270.out 0).trans rfl, (blk_cell BK270.out 1).trans rfl, ((HB.out.cell (World.block_lt_of_cell? w _ hw282_0)).trans hw282_0)⟩ (fun hHeld => ?_)
                   clear hK K
                   refine norm1 ?_
                   refine pure1 2 33 (tf 34 3) (ay HT_.out) ?_
                   refine pure1 3 34 (tf 34 4) (ay HT_.out) ?_
                   refine pure1 4 35 (tf 34 5) (ay HT_.out) ?_
                   refine pure1 5 36 (tf 34 6) (ay HT_.out) ?_
                   refine pure1 6 37 (tf 34 7) (ay HT_.out) ?_
                   refine pure1 7 38 (tf 34 8) (ay HT_.out) ?_
                   refine pure1 8 39 (tf 34 9) (ay HT_.out) ?_
                   refine pure1 9 40 (tf 34 10) (ay HT_.out) ?_
                   refine pure1 10 41 (tf 34 11) (ay HT_.out) ?_
                   refine pure1 11 42 (tf 34 12) (ay HT_.out) ?_
                   refine take_ (i := 12) (N := some 43) (v := ?_) (a' := ?_) (tf 34 13) rfl rfl (take_ofW HT_.out HW_.out (by kernel_rfl)) (fun _ _ _ h => h) (Or.inl ⟨by rfl, ?_⟩) hHeld ?_ ?_
                   rotate_left
                   ·rintro w' ⟨s0, s1, s2⟩
                    go_simp
                    with_reducible rfl
                   rotate_left
                   ·simp only [Act.put, List.setIfInBounds_toArray, List.set_cons_zero, List.set_cons_succ, i64_w, i32_w]
                    rfl
                   refine pure1 13 44 (tf 34 14) (ay HT_.out) ?_
                   refine pure1 14 45 (tf 34 15) (ay HT_.out) ?_
                   refine pure1 15 46 (tf 34 16) (ay HT_.out) ?_
                   refine pure1 16 47 (tf 34 17) (ay HT_.out) ?_
                   refine pure1 17 48 (tf 34 18) (ay HT_.out) ?_
                   refine pure1 18 49 (tf 34 19) (ay HT_.out) ?_
                   refine pure1 19 50 (tf 34 20) (ay HT_.out) ?_
                   refine pure1 20 51 (tf 34 21) (ay HT_.out) ?_
                   refine pure1 22 53 #[true, true, true, true, true, true, true, true, true, true, true, true, true, true, true, true, true, true, true, true, true, false, true, false, false, false, false, false, false, false, false, false, false, false] (ay HT_.out) ?_
                   refine pure1 23 54 #[true, true, true, true, true, true, true, true, true, true, true, true, true, true, true, true, true, true, true, true, true, false, true, true, false, false, false, false, false, false, false, false, false, false] (ay HT_.out) ?_
                   refine pure1 24 55 #[true, true, true, true, true, true, true, true, true, true, true, true, true, true, true, true, true, true, true, true, true, false, true, true, true, false, false, false, false, false, false, false, false, false] (ay HT_.out) ?_
                   refine pure1 26 57 #[true, true, true, true, true, true, true, true, true, true, true, true, true, true, true, true, true, true, true, true, true, false, true, true, true, false, true, false, false, false, false, false, false, false] (ay HT_.out) ?_
                   refine pure1 28 59 #[true, true, true, true, true, true, true, true, true, true, true, true, true, true, true, true, true, true, true, true, true, false, true, true, true, false, true, false, true, false, false, false, false, false] (ay HT_.out) ?_
                   refine take_ (i := 21) (N := some 52) (v := ?_) (a' := ?_) #[true, true, true, true, true, true, true, true, true, true, true, true, true, true, true, true, true, true, true, true, true, true, true, true, true, false, true, false, true, false, false, false, false, false] rfl rfl (take_ofW HT_.out HW_.out (by kernel_rfl)) (fun _ _ _ h => h) (Or.inl ⟨by rfl, ?_⟩) hHeld ?_ ?_
                   rotate_left
                   ·rintro w' ⟨s0, s1, s2⟩
                    go_simp
                    with_reducible rfl
                   rotate_left
                   ·simp only [Act.put, List.setIfInBounds_toArray, List.set_cons_zero, List.set_cons_succ, i64_w, i32_w]
                    rfl
                   refine take_ (i := 25) (N := some 56) (v := ?_) (a' := ?_) #[true, true, true, true, true, true, true, true, true, true, true, true, true, true, true, true, true, true, true, true, true, true, true, true, true, true, true, false, true, false, false, false, false, false] rfl rfl (take_ofW HT_.out HW_.out (by kernel_rfl)) (fun _ _ _ h => h) (Or.inl ⟨by rfl, ?_⟩) hHeld ?_ ?_
                   rotate_left
                   ·rintro w' ⟨s0, s1, s2⟩
                    go_simp
                    with_reducible rfl
                   rotate_left
                   ·simp only [Act.put, List.setIfInBounds_toArray, List.set_cons_zero, List.set_cons_succ, i64_w, i32_w]
                    rfl
                   refine one_ (i := 27) (N := some 58) (tf 34 29) rfl rfl (one_of HT_.out (by kernel_rfl)) (by decide) (fun K hK => ?_)
                   refine goes_ Tryd.func69 (by kernel_rfl) rfl #[.slice A0_0 l0_0.length c0_0, .int .i64 x19_1] (by rfl) rfl rfl lm ?_
                   with_reducible refine (impl_at.calls _ _ l0_0 x19_1 t283 _ ?side1 ?side2 A28.out).mono ?_
                   (case side1 => exact cb HR0_0.out)
                   (case side2 => exact HC0_0.out)
                   rintro e w' ⟨rfl, ⟨nd, rfl⟩⟩
                   refine ⟨_, rfl, ?_⟩
                   refine hK.out _ _ ⟨(blk_cell BK270.out 0).trans rfl, (blk_cell BK270.out 1).trans rfl, ((HB.out.cell (World.block_lt_of_cell? w _ hw282_0)).trans hw282_0)⟩ (fun hHeld => ?_)
                   clear hK K
                   refine norm1 ?_
                   refine pure1 29 60 (tf 34 30) (ay HT_.out) ?_
                   refine one_ (i := 30) (N := some 61) (tf 34 31) rfl rfl (one_of HT_.out (by kernel_rfl)) (by decide) (fun K hK => ?_)
                   refine goes_ Tryd.func86 (by kernel_rfl) rfl #[.agg #[.slice A0_0 l0_0.length c0_0, .slice (some ad279) l0_1.length c0_1], .int .i64 (wrap64 (x19_1 - 1)), .int .i64 (wrap64 (t283 + x26_2))] (by rfl) rfl rfl lm ?_
                   with_reducible refine (impl_Tableau_entry.calls _ _ l0_0 _ _ l0_1 (wrap64 (x19_1 - 1)) (wrap64 (t283 + x26_2)) t284 _ ?side1 ?side2 ?side3 ?side4 A29.out).mono ?_
                   (case side1 => exact cb HR0_0.out)
                   (case side2 => exact HC0_0.out)
                   (case side3 => exact cb HR0_1.out)
                   (case side4 => exact HC0_1.out)
                   rintro e w34 ⟨rfl, hb⟩
                   refine ⟨_, rfl, ?_⟩
                   have n0_ := Aside0.mk (Kd.R_below (rk HO_279000.out) hb)
                   have n1_ := Aside0.mk (Kd.R_below (rk HO_279001.out) hb)
                   have n2_ := Aside0.mk (blk_below (bk BK270.out) hb)
                   have n3_ := Aside0.mk (blk_below (bk BK278.out) hb)
                   have n4_ := Aside0.mk (below_step bset hb)
                   clear HO_279000
                   clear HO_279001
                   clear BK270
                   clear BK278
                   clear HB
                   have HO_279000 := n0_
                   have HO_279001 := n1_
                   have BK270 := n2_
                   have BK278 := n3_
                   have HB := n4_
                   clear n0_ n1_ n2_ n3_ n4_
                   (try clear hb)
                   (try clear hb2)
                   (try clear hk)
                   (try clear hi)
                   refine hK.out _ _ ⟨(blk_cell BK270.out 0).trans rfl, (blk_cell BK270.out 1).trans rfl, ((HB.out.cell (World.block_lt_of_cell? w _ hw282_0)).trans hw282_0)⟩ (fun hHeld => ?_)
                   clear hK K
                   refine norm1 ?_
                   refine pure1 31 62 (tf 34 32) (ay HT_.out) ?_
                   refine pure1 32 63 (tf 34 33) (ay HT_.out) ?_
                   refine pure1 33 64 (tf 34 34) (ay HT_.out) ?_
                   refine done_ (done_of HT_.out (by kernel_rfl)) ?_
                   try go_wp2
                   go_roundg k2
                   case measure => have := HK1.out; have := HK2.out; omega
                   case rel => exact ⟨(wrap64 (x26_2 + 1)), (by first | rfl | (simp; done) | (simp [*]; done)), H', ⟨by have := HK1.out; have := HK2.out; omega⟩, ⟨rk HO_279000.out⟩, ⟨rk HO_279001.out⟩, ⟨bk BK270.out⟩, ⟨bk BK278.out⟩, ⟨bset⟩⟩
                 ·rw [if_neg c27] at H
                  have c27b0 : decide (0 < x19_1) = false := decide_eq_false c27
                  clear c27
                  have H' := Aside0.mk H
                  clear H
                  have p280 : 0 ≤ (x26_2 : Int) := of_decide_eq_true asm
                  have q280 : x26_2 < ((rd_L1 l0_1 x19_1).length : Int) := of_decide_eq_true asm
                  obtain ⟨ad280, e280, hx280_0⟩ := Kd.at_int HR279_0.out x26_2 p280 q280
                  cases e280
                  (first | replace hx280_0 := (HB.out.cell (World.block_lt_of_cell? w _ hx280_0)).trans hx280_0 | skip)
                  replace p280 := eq_true p280
                  replace q280 := eq_true q280
                  try go_wp2
                  have n0_ := Aside0.mk (Kd.R_drew HO_279000.out)
                  have n1_ := Aside0.mk (Kd.R_drew HO_279001.out)
                  have n2_ := Aside0.mk (blk_drew BK270.out)
                  have n3_ := Aside0.mk (blk_drew BK278.out)
                  have n4_ := Aside0.mk (below_drew1 HB.out)
                  clear HO_279000
                  clear HO_279001
                  clear BK270
                  clear BK278
                  clear HB
                  have HO_279000 := n0_
                  have HO_279001 := n1_
                  have BK270 := n2_
                  have BK278 := n3_
                  have HB := n4_
                  clear n0_ n1_ n2_ n3_ n4_
                  have p282 : 0 ≤ ((ji22) : Int) := of_decide_eq_true asm
                  have q282 : (ji22) < ((rd_L1 l0_1 x19_1).length : Int) := of_decide_eq_true asm
                  obtain ⟨ad282, e282, hx282_0⟩ := Kd.at_int HR279_0.out (ji22) p282 q282
                  have hw282_0 := hx282_0
                  obtain rfl : ad280 = ad282 := (by injection e282)
                  (first | replace hx282_0 := (HB.out.cell (World.block_lt_of_cell? w _ hx282_0)).trans hx282_0 | skip)
                  replace p282 := eq_true p282
                  replace q282 := eq_true q282
                  refine start_ (n := 34) (S := fun w' => w'.cell? (ad280.add ((ji22)).toNat) = some (.int .i64 (rd (rd_L1 l0_1 x19_1) (ji22)))) (ds := []) (tf 34 0) (by kernel_rfl) rfl rfl (((HB.out.cell (World.block_lt_of_cell? w _ hw282_0)).trans hw282_0)) (fun hHeld => ?_); refine with_tabW impl_IsTableau.tab10 impl_IsTableau.bits10 (fun HT_ HW_ => ?_)
                  generalize wr.drew = w35 at HO_279000 HO_279001 BK270 BK278 HB hx282_0 hHeld ⊢
                  refine pure1 0 31 (tf 34 1) (ay HT_.out) ?_
                  refine one_ (i := 1) (N := some 32) (tf 34 2) rfl rfl (one_of HT_.out (by kernel_rfl)) (by decide) (fun K hK => ?_)
                  refine goes_ Tryd.func79 (by kernel_rfl) rfl #[.int .i64 (rd (rd_L1 l0_1 x19_1) x26_2), .int .i64 1, .int .i64 9] (by rfl) rfl rfl lm ?_
                  with_reducible refine (impl_within.calls (rd (rd_L1 l0_1 x19_1) x26_2) 1 9 true _ A19.out).mono ?_
                  rintro e w' ⟨rfl, ⟨nd, rfl⟩⟩
                  refine ⟨_, rfl, ?_⟩
                  refine hK.out _ _ (((HB.out.cell (World.block_lt_of_cell? w _ hw282_0)).trans hw282_0)) (fun hHeld => ?_)
                  clear hK K
                  refine norm1 ?_
                  refine pure1 2 33 (tf 34 3) (ay HT_.out) ?_
                  refine pure1 3 34 (tf 34 4) (ay HT_.out) ?_
                  refine pure1 4 35 (tf 34 5) (ay HT_.out) ?_
                  refine pure1 5 36 (tf 34 6) (ay HT_.out) ?_
                  refine pure1 6 37 (tf 34 7) (ay HT_.out) ?_
                  refine pure1 7 38 (tf 34 8) (ay HT_.out) ?_
                  refine pure1 8 39 (tf 34 9) (ay HT_.out) ?_
                  refine pure1 9 40 (tf 34 10) (ay HT_.out) ?_
                  refine pure1 10 41 (tf 34 11) (ay HT_.out) ?_
                  refine pure1 11 42 (tf 34 12) (ay HT_.out) ?_
                  refine take_ (i := 12) (N := some 43) (v := ?_) (a' := ?_) (tf 34 13) rfl rfl (take_ofW HT_.out HW_.out (by kernel_rfl)) (fun _ _ _ h => h) (Or.inl ⟨by rfl, ?_⟩) hHeld ?_ ?_
                  rotate_left
                  ·intro w' s0
                   go_simp
                   with_reducible rfl
                  rotate_left
                  ·simp only [Act.put, List.setIfInBounds_toArray, List.set_cons_zero, List.set_cons_succ, i64_w, i32_w]
                   rfl
                  refine pure1 13 44 (tf 34 14) (ay HT_.out) ?_
                  refine pure1 14 45 (tf 34 15) (ay HT_.out) ?_
                  refine pure1 15 46 (tf 34 16) (ay HT_.out) ?_
                  refine pure1 16 47 (tf 34 17) (ay HT_.out) ?_
                  refine pure1 17 48 (tf 34 18) (ay HT_.out) ?_
                  refine pure1 18 49 (tf 34 19) (ay HT_.out) ?_
                  refine pure1 19 50 (tf 34 20) (ay HT_.out) ?_
                  refine pure2 20 51 (tf 34 21) (ay HT_.out) ?_
                  refine pure2 21 52 (tf 34 22) (ay HT_.out) ?_
                  refine pure2 22 53 (tf 34 23) (ay HT_.out) ?_
                  refine pure2 23 54 (tf 34 24) (ay HT_.out) ?_
                  refine pure2 24 55 (tf 34 25) (ay HT_.out) ?_
                  refine pure2 25 56 (tf 34 26) (ay HT_.out) ?_
                  refine pure2 26 57 (tf 34 27) (ay HT_.out) ?_
                  refine pure2 27 58 (tf 34 28) (ay HT_.out) ?_
                  refine pure2 28 59 (tf 34 29) (ay HT_.out) ?_
                  refine pure2 29 60 (tf 34 30) (ay HT_.out) ?_
                  refine pure2 30 61 (tf 34 31) (ay HT_.out) ?_
                  refine pure2 31 62 (tf 34 32) (ay HT_.out) ?_
                  refine pure1 32 63 (tf 34 33) (ay HT_.out) ?_
                  refine pure1 33 64 (tf 34 34) (ay HT_.out) ?_
                  refine done_ (done_of HT_.out (by kernel_rfl)) ?_
                  try go_wp2
                  go_roundg k2
                  case measure => have := HK1.out; have := HK2.out; omega
                  case rel => exact ⟨(wrap64 (x26_2 + 1)), (by first | rfl | (simp; done) | (simp [*]; done)), H', ⟨by have := HK1.out; have := HK2.out; omega⟩, ⟨rk HO_279000.out⟩, ⟨rk HO_279001.out⟩, ⟨bk BK270.out⟩, ⟨bk BK278.out⟩, ⟨bset⟩⟩
               ·rw [if_neg c24] at H
                exact absurd H (by simp)
              ·rw [if_neg c23] at H
               exact absurd H (by simp)
             ·rw [if_neg c21] at H
              have c21b0 : decide (0 < x26_2) = false := decide_eq_false c21
              clear c21
              by_cases c36 : x19_1 > 0
              ·rw [if_pos c36] at H
               have c36b0 : decide (0 < x19_1) = true := decide_eq_true c36
               clear c36
               replace H := Option.bind_eq_some_iff.mp H
               obtain ⟨t285, A370, H⟩ := H
               replace H : ((impl_Tableau_entry.f l0_0 l0_1 (wrap64 (x19_1 - 1)) (wrap64 (t285 + x26_2))).bind fun t286 => (if (rd (rd_L1 l0_1 x19_1) x26_2) ≤ t286 then (some false) else (impl_IsTableau.l1 k2 x19_1 (rd_L1 l0_1 x19_1) l0_1 (l0_1.length : Int) x19_1 (rd_L1 l0_1 x19_1) ((rd_L1 l0_1 x19_1).length : Int) (wrap64 (x26_2 + 1)) l0_0 l0_1))) = some r := H
               have A37 := Aside0.mk A370
               clear A370
               replace H := Option.bind_eq_some_iff.mp H
               obtain ⟨t286, A380, H⟩ := H
               replace H : (if (rd (rd_L1 l0_1 x19_1) x26_2) ≤ t286 then (some false) else (impl_IsTableau.l1 k2 x19_1 (rd_L1 l0_1 x19_1) l0_1 (l0_1.length : Int) x19_1 (rd_L1 l0_1 x19_1) ((rd_L1 l0_1 x19_1).length : Int) (wrap64 (x26_2 + 1)) l0_0 l0_1)) = some r := H
               have A38 := Aside0.mk A380
               clear A380
               by_cases c39 : (rd (rd_L1 l0_1 x19_1) x26_2) ≤ t286
               ·rw [if_pos c39] at H
                have c39b0 : decide ((rd (rd_L1 l0_1 x19_1) x26_2) ≤ t286) = true := decide_eq_true c39
                clear c39
                obtain rfl := Option.some.inj H
                have p280 : 0 ≤ (x26_2 : Int) := of_decide_eq_true asm
                have q280 : x26_2 < ((rd_L1 l0_1 x19_1).length : Int) := of_decide_eq_true asm
                obtain ⟨ad280, e280, hx280_0⟩ := Kd.at_int HR279_0.out x26_2 p280 q280
                cases e280
                (first | replace hx280_0 := (HB.out.cell (World.block_lt_of_cell? w _ hx280_0)).trans hx280_0 | skip)
                replace p280 := eq_true p280
                replace q280 := eq_true q280
                try go_wp2
                have n0_ := Aside0.mk (Kd.R_drew HO_279000.out)
                have n1_ := Aside0.mk (Kd.R_drew HO_279001.out)
                have n2_ := Aside0.mk (blk_drew BK270.out)
                have n3_ := Aside0.mk (blk_drew BK278.out)
                have n4_ := Aside0.mk (below_drew1 HB.out)
                clear HO_279000
                clear HO_279001
                clear BK270
                clear BK278
                clear HB
                have HO_279000 := n0_
                have HO_279001 := n1_
                have BK270 := n2_
                have BK278 := n3_
                have HB := n4_
                clear n0_ n1_ n2_ n3_ n4_
                refine start_ (n := 34) (S := fun w' => w'.cell? ⟨gb270, 0, none⟩ = some (.slice A0_0 l0_0.length c0_0) ∧ w'.cell? ⟨gb270, 1, none⟩ = some (.slice (some ad279) l0_1.length c0_1)) (ds := []) (tf 34 0) (by kernel_rfl) rfl rfl ⟨(blk_cell BK270.out 0).trans rfl, (blk_cell BK270.out 1).trans rfl⟩ (fun hHeld => ?_); refine with_tabW impl_IsTableau.tab10 impl_IsTableau.bits10 (fun HT_ HW_ => ?_)
                generalize wr.drew = w40 at HO_279000 HO_279001 BK270 BK278 HB hHeld ⊢
                refine pure1 0 31 (tf 34 1) (ay HT_.out) ?_
                refine one_ (i := 1) (N := some 32) (tf 34 2) rfl rfl (one_of HT_.out (by kernel_rfl)) (by decide) (fun K hK => ?_)
                refine goes_ Tryd.func79 (by kernel_rfl) rfl #[.int .i64 (rd (rd_L1 l0_1 x19_1) x26_2), .int .i64 1, .int .i64 9] (by rfl) rfl rfl lm ?_
                with_reducible refine (impl_within.calls (rd (rd_L1 l0_1 x19_1) x26_2) 1 9 true _ A19.out).mono ?_
                rintro e w' ⟨rfl, ⟨nd, rfl⟩⟩
                refine ⟨_, rfl, ?_⟩
                refine hK.out _ _ ⟨(blk_cell BK270.out 0).trans rfl, (blk_cell BK270.out 1).trans rfl⟩ (fun hHeld => ?_)
                clear hK K
                refine norm1 ?_
                refine pure1 2 33 (tf 34 3) (ay HT_.out) ?_
                refine pure1 3 34 (tf 34 4) (ay HT_.out) ?_
                refine pure1 4 35 (tf 34 5) (ay HT_.out) ?_
                refine pure1 5 36 (tf 34 6) (ay HT_.out) ?_
                refine pure1 6 37 (tf 34 7) (ay HT_.out) ?_
                refine pure2 7 38 (tf 34 8) (ay HT_.out) ?_
                refine pure2 8 39 (tf 34 9) (ay HT_.out) ?_
                refine pure2 9 40 (tf 34 10) (ay HT_.out) ?_
                refine pure2 10 41 (tf 34 11) (ay HT_.out) ?_
                refine pure2 11 42 (tf 34 12) (ay HT_.out) ?_
                refine pure2 12 43 (tf 34 13) (ay HT_.out) ?_
                refine pure2 13 44 (tf 34 14) (ay HT_.out) ?_
                refine pure1 14 45 (tf 34 15) (ay HT_.out) ?_
                refine pure1 15 46 (tf 34 16) (ay HT_.out) ?_
                refine pure1 16 47 (tf 34 17) (ay HT_.out) ?_
                refine pure1 17 48 (tf 34 18) (ay HT_.out) ?_
                refine pure1 18 49 (tf 34 19) (ay HT_.out) ?_
                refine pure1 19 50 (tf 34 20) (ay HT_.out) ?_
                refine pure1 20 51 (tf 34 21) (ay HT_.out) ?_
                refine pure1 22 53 #[true, true, true, true, true, true, true, true, true, true, true, true, true, true, true, true, true, true, true, true, true, false, true, false, false, false, false, false, false, false, false, false, false, false] (ay HT_.out) ?_
                refine pure1 23 54 #[true, true, true, true, true, true, true, true, true, true, true, true, true, true, true, true, true, true, true, true, true, false, true, true, false, false, false, false, false, false, false, false, false, false] (ay HT_.out) ?_
                refine pure1 24 55 #[true, true, true, true, true, true, true, true, true, true, true, true, true, true, true, true, true, true, true, true, true, false, true, true, true, false, false, false, false, false, false, false, false, false] (ay HT_.out) ?_
                refine pure1 26 57 #[true, true, true, true, true, true, true, true, true, true, true, true, true, true, true, true, true, true, true, true, true, false, true, true, true, false, true, false, false, false, false, false, false, false] (ay HT_.out) ?_
                refine pure1 28 59 #[true, true, true, true, true, true, true, true, true, true, true, true, true, true, true, true, true, true, true, true, true, false, true, true, true, false, true, false, true, false, false, false, false, false] (ay HT_.out) ?_
                refine take_ (i := 21) (N := some 52) (v := ?_) (a' := ?_) #[true, true, true, true, true, true, true, true, true, true, true, true, true, true, true, true, true, true, true, true, true, true, true, true, true, false, true, false, true, false, false, false, false, false] rfl rfl (take_ofW HT_.out HW_.out (by kernel_rfl)) (fun _ _ _ h => h) (Or.inl ⟨by rfl, ?_⟩) hHeld ?_ ?_
                rotate_left
                ·rintro w' ⟨s0, s1⟩
                 go_simp
                 with_reducible rfl
                rotate_left
                ·simp only [Act.put, List.setIfInBounds_toArray, List.set_cons_zero, List.set_cons_succ, i64_w, i32_w]
                 rfl
                refine take_ (i := 25) (N := some 56) (v := ?_) (a' := ?_) #[true, true, true, true, true, true, true, true, true, true, true, true, true, true, true, true, true, true, true, true, true, true, true, true, true, true, true, false, true, false, false, false, false, false] rfl rfl (take_ofW HT_.out HW_.out (by kernel_rfl)) (fun _ _ _ h => h) (Or.inl ⟨by rfl, ?_⟩) hHeld ?_ ?_
                rotate_left
                ·rintro w' ⟨s0, s1⟩
                 go_simp
                 with_reducible rfl
                rotate_left
                ·simp only [Act.put, List.setIfInBounds_toArray, List.set_cons_zero, List.set_cons_succ, i64_w, i32_w]
                 rfl
                refine one_ (i := 27) (N := some 58) (tf 34 29) rfl rfl (one_of HT_.out (by kernel_rfl)) (by decide) (fun K hK => ?_)
                refine goes_ Tryd.func69 (by kernel_rfl) rfl #[.slice A0_0 l0_0.length c0_0, .int .i64 x19_1] (by rfl) rfl rfl lm ?_
                with_reducible refine (impl_at.calls _ _ l0_0 x19_1 t285 _ ?side1 ?side2 A37.out).mono ?_
                (case side1 => exact cb HR0_0.out)
                (case side2 => exact HC0_0.out)
                rintro e w' ⟨rfl, ⟨nd, rfl⟩⟩
                refine ⟨_, rfl, ?_⟩
                refine hK.out _ _ ⟨(blk_cell BK270.out 0).trans rfl, (blk_cell BK270.out 1).trans rfl⟩ (fun hHeld => ?_)
                clear hK K
                refine norm1 ?_
                refine pure1 29 60 (tf 34 30) (ay HT_.out) ?_
                refine one_ (i := 30) (N := some 61) (tf 34 31) rfl rfl (one_of HT_.out (by kernel_rfl)) (by decide) (fun K hK => ?_)
                refine goes_ Tryd.func86 (by kernel_rfl) rfl #[.agg #[.slice A0_0 l0_0.length c0_0, .slice (some ad279) l0_1.length c0_1], .int .i64 (wrap64 (x19_1 - 1)), .int .i64 (wrap64 (t285 + x26_2))] (by rfl) rfl rfl lm ?_
                with_reducible refine (impl_Tableau_entry.calls _ _ l0_0 _ _ l0_1 (wrap64 (x19_1 - 1)) (wrap64 (t285 + x26_2)) t286 _ ?side1 ?side2 ?side3 ?side4 A38.out).mono ?_
                (case side1 => exact cb HR0_0.out)
                (case side2 => exact HC0_0.out)
                (case side3 => exact cb HR0_1.out)
                (case side4 => exact HC0_1.out)
                rintro e w41 ⟨rfl, hb⟩
                refine ⟨_, rfl, ?_⟩
                have n0_ := Aside0.mk (Kd.R_below (rk HO_279000.out) hb)
                have n1_ := Aside0.mk (Kd.R_below (rk HO_279001.out) hb)
                have n2_ := Aside0.mk (blk_below (bk BK270.out) hb)
                have n3_ := Aside0.mk (blk_below (bk BK278.out) hb)
                have n4_ := Aside0.mk (below_step bset hb)
                clear HO_279000
                clear HO_279001
                clear BK270
                clear BK278
                clear HB
                have HO_279000 := n0_
                have HO_279001 := n1_
                have BK270 := n2_
                have BK278 := n3_
                have HB := n4_
                clear n0_ n1_ n2_ n3_ n4_
                (try clear hb)
                (try clear hb2)
                (try clear hk)
                (try clear hi)
                refine hK.out _ _ ⟨(blk_cell BK270.out 0).trans rfl, (blk_cell BK270.out 1).trans rfl⟩ (fun hHeld => ?_)
                clear hK K
                refine norm1 ?_
                refine pure1 31 62 (tf 34 32) (ay HT_.out) ?_
                refine pure1 32 63 (tf 34 33) (ay HT_.out) ?_
                refine pure1 33 64 (tf 34 34) (ay HT_.out) ?_
                refine done_ (done_of HT_.out (by kernel_rfl)) ?_
                try go_wp2
                go_ret
                exact ⟨by first | rfl | (simp [errW_none, errW_some] <;> rfl) | (simp [*, errW_none, errW_some] <;> rfl), bset⟩
               ·rw [if_neg c39] at H
                have c39b0 : decide ((rd (rd_L1 l0_1 x19_1) x26_2) ≤ t286) = false := decide_eq_false c39
                clear c39
                have H' := Aside0.mk H
                clear H
                have p280 : 0 ≤ (x26_2 : Int) := of_decide_eq_true asm
                have q280 : x26_2 < ((rd_L1 l0_1 x19_1).length : Int) := of_decide_eq_true asm
                obtain ⟨ad280, e280, hx280_0⟩ := Kd.at_int HR279_0.out x26_2 p280 q280
                cases e280
                (first | replace hx280_0 := (HB.out.cell (World.block_lt_of_cell? w _ hx280_0)).trans hx280_0 | skip)
                replace p280 := eq_true p280
                replace q280 := eq_true q280
                try go_wp2
                have n0_ := Aside0.mk (Kd.R_drew HO_279000.out)
                have n1_ := Aside0.mk (Kd.R_drew HO_279001.out)
                have n2_ := Aside0.mk (blk_drew BK270.out)
                have n3_ := Aside0.mk (blk_drew BK278.out)
                have n4_ := Aside0.mk (below_drew1 HB.out)
                clear HO_279000
                clear HO_279001
                clear BK270
                clear BK278
                clear HB
                have HO_279000 := n0_
                have HO_279001 := n1_
                have BK270 := n2_
                have BK278 := n3_
                have HB := n4_
                clear n0_ n1_ n2_ n3_ n4_
                refine start_ (n := 34) (S := fun w' => w'.cell? ⟨gb270, 0, none⟩ = some (.slice A0_0 l0_0.length c0_0) ∧ w'.cell? ⟨gb270, 1, none⟩ = some (.slice (some ad279) l0_1.length c0_1)) (ds := []) (tf 34 0) (by kernel_rfl) rfl rfl ⟨(blk_cell BK270.out 0).trans rfl, (blk_cell BK270.out 1).trans rfl⟩ (fun hHeld => ?_); refine with_tabW impl_IsTableau.tab10 impl_IsTableau.bits10 (fun HT_ HW_ => ?_)
                generalize wr.drew = w42 at HO_279000 HO_279001 BK270 BK278 HB hHeld ⊢
                refine pure1 0 31 (tf 34 1) (ay HT_.out) ?_
                refine one_ (i := 1) (N := some 32) (tf 34 2) rfl rfl (one_of HT_.out (by kernel_rfl)) (by decide) (fun K hK => ?_)
                refine goes_ Tryd.func79 (by kernel_rfl) rfl #[.int .i64 (rd (rd_L1 l0_1 x19_1) x26_2), .int .i64 1, .int .i64 9] (by rfl) rfl rfl lm ?_
                with_reducible refine (impl_within.calls (rd (rd_L1 l0_1 x19_1) x26_2) 1 9 true _ A19.out).mono ?_
                rintro e w' ⟨rfl, ⟨nd, rfl⟩⟩
                refine ⟨_, rfl, ?_⟩
                refine hK.out _ _ ⟨(blk_cell BK270.out 0).trans rfl, (blk_cell BK270.out 1).trans rfl⟩ (fun hHeld => ?_)
                clear hK K
                refine norm1 ?_
                refine pure1 2 33 (tf 34 3) (ay HT_.out) ?_
                refine pure1 3 34 (tf 34 4) (ay HT_.out) ?_
                refine pure1 4 35 (tf 34 5) (ay HT_.out) ?_
                refine pure1 5 36 (tf 34 6) (ay HT_.out) ?_
                refine pure1 6 37 (tf 34 7) (ay HT_.out) ?_
                refine pure2 7 38 (tf 34 8) (ay HT_.out) ?_
                refine pure2 8 39 (tf 34 9) (ay HT_.out) ?_
                refine pure2 9 40 (tf 34 10) (ay HT_.out) ?_
                refine pure2 10 41 (tf 34 11) (ay HT_.out) ?_
                refine pure2 11 42 (tf 34 12) (ay HT_.out) ?_
                refine pure2 12 43 (tf 34 13) (ay HT_.out) ?_
                refine pure2 13 44 (tf 34 14) (ay HT_.out) ?_
                refine pure1 14 45 (tf 34 15) (ay HT_.out) ?_
                refine pure1 15 46 (tf 34 16) (ay HT_.out) ?_
                refine pure1 16 47 (tf 34 17) (ay HT_.out) ?_
                refine pure1 17 48 (tf 34 18) (ay HT_.out) ?_
                refine pure1 18 49 (tf 34 19) (ay HT_.out) ?_
                refine pure1 19 50 (tf 34 20) (ay HT_.out) ?_
                refine pure1 20 51 (tf 34 21) (ay HT_.out) ?_
                refine pure1 22 53 #[true, true, true, true, true, true, true, true, true, true, true, true, true, true, true, true, true, true, true, true, true, false, true, false, false, false, false, false, false, false, false, false, false, false] (ay HT_.out) ?_
                refine pure1 23 54 #[true, true, true, true, true, true, true, true, true, true, true, true, true, true, true, true, true, true, true, true, true, false, true, true, false, false, false, false, false, false, false, false, false, false] (ay HT_.out) ?_
                refine pure1 24 55 #[true, true, true, true, true, true, true, true, true, true, true, true, true, true, true, true, true, true, true, true, true, false, true, true, true, false, false, false, false, false, false, false, false, false] (ay HT_.out) ?_
                refine pure1 26 57 #[true, true, true, true, true, true, true, true, true, true, true, true, true, true, true, true, true, true, true, true, true, false, true, true, true, false, true, false, false, false, false, false, false, false] (ay HT_.out) ?_
                refine pure1 28 59 #[true, true, true, true, true, true, true, true, true, true, true, true, true, true, true, true, true, true, true, true, true, false, true, true, true, false, true, false, true, false, false, false, false, false] (ay HT_.out) ?_
                refine take_ (i := 21) (N := some 52) (v := ?_) (a' := ?_) #[true, true, true, true, true, true, true, true, true, true, true, true, true, true, true, true, true, true, true, true, true, true, true, true, true, false, true, false, true, false, false, false, false, false] rfl rfl (take_ofW HT_.out HW_.out (by kernel_rfl)) (fun _ _ _ h => h) (Or.inl ⟨by rfl, ?_⟩) hHeld ?_ ?_
                rotate_left
                ·rintro w' ⟨s0, s1⟩
                 go_simp
                 with_reducible rfl
                rotate_left
                ·simp only [Act.put, List.setIfInBounds_toArray, List.set_cons_zero, List.set_cons_succ, i64_w, i32_w]
                 rfl
                refine take_ (i := 25) (N := some 56) (v := ?_) (a' := ?_) #[true, true, true, true, true, true, true, true, true, true, true, true, true, true, true, true, true, true, true, true, true, true, true, true, true, true, true, false, true, false, false, false, false, false] rfl rfl (take_ofW HT_.out HW_.out (by kernel_rfl)) (fun _ _ _ h => h) (Or.inl ⟨by rfl, ?_⟩) hHeld ?_ ?_
                rotate_left
                ·rintro w' ⟨s0, s1⟩
                 go_simp
                 with_reducible rfl
                rotate_left
                ·simp only [Act.put, List.setIfInBounds_toArray, List.set_cons_zero, List.set_cons_succ, i64_w, i32_w]
                 rfl
                refine one_ (i := 27) (N := some 58) (tf 34 29) rfl rfl (one_of HT_.out (by kernel_rfl)) (by decide) (fun K hK => ?_)
                refine goes_ Tryd.func69 (by kernel_rfl) rfl #[.slice A0_0 l0_0.length c0_0, .int .i64 x19_1] (by rfl) rfl rfl lm ?_
                with_reducible refine (impl_at.calls _ _ l0_0 x19_1 t285 _ ?side1 ?side2 A37.out).mono ?_
                (case side1 => exact cb HR0_0.out)
                (case side2 => exact HC0_0.out)
                rintro e w' ⟨rfl, ⟨nd, rfl⟩⟩
                refine ⟨_, rfl, ?_⟩
                refine hK.out _ _ ⟨(blk_cell BK270.out 0).trans rfl, (blk_cell BK270.out 1).trans rfl⟩ (fun hHeld => ?_)
                clear hK K
                refine norm1 ?_
                refine pure1 29 60 (tf 34 30) (ay HT_.out) ?_
                refine one_ (i := 30) (N := some 61) (tf 34 31) rfl rfl (one_of HT_.out (by kernel_rfl)) (by decide) (fun K hK => ?_)
                refine goes_ Tryd.func86 (by kernel_rfl) rfl #[.agg #[.slice A0_0 l0_0.length c0_0, .slice (some ad279) l0_1.length c0_1], .int .i64 (wrap64 (x19_1 - 1)), .int .i64 (wrap64 (t285 + x26_2))] (by rfl) rfl rfl lm ?_
                with_reducible refine (impl_Tableau_entry.calls _ _ l0_0 _ _ l0_1 (wrap64 (x19_1 - 1)) (wrap64 (t285 + x26_2)) t286 _ ?side1 ?side2 ?side3 ?side4 A38.out).mono ?_
                (case side1 => exact cb HR0_0.out)
                (case side2 => exact HC0_0.out)
                (case side3 => exact cb HR0_1.out)
                (case side4 => exact HC0_1.out)
                rintro e w43 ⟨rfl, hb⟩
                refine ⟨_, rfl, ?_⟩
                have n0_ := Aside0.mk (Kd.R_below (rk HO_279000.out) hb)
                have n1_ := Aside0.mk (Kd.R_below (rk HO_279001.out) hb)
                have n2_ := Aside0.mk (blk_below (bk BK270.out) hb)
                have n3_ := Aside0.mk (blk_below (bk BK278.out) hb)
                have n4_ := Aside0.mk (below_step bset hb)
                clear HO_279000
                clear HO_279001
                clear BK270
                clear BK278
                clear HB
                have HO_279000 := n0_
                have HO_279001 := n1_
                have BK270 := n2_
                have BK278 := n3_
                have HB := n4_
                clear n0_ n1_ n2_ n3_ n4_
                (try clear hb)
                (try clear hb2)
                (try clear hk)
                (try clear hi)
                refine hK.out _ _ ⟨(blk_cell BK270.out 0).trans rfl, (blk_cell BK270.out 1).trans rfl⟩ (fun hHeld => ?_)
                clear hK K
                refine norm1 ?_
                refine pure1 31 62 (tf 34 32) (ay HT_.out) ?_
                refine pure1 32 63 (tf 34 33) (ay HT_.out) ?_
                refine pure1 33 64 (tf 34 34) (ay HT_.out) ?_
                refine done_ (done_of HT_.out (by kernel_rfl)) ?_
                try go_wp2
                go_roundg k2
                case measure => have := HK1.out; have := HK2.out; omega
                case rel => exact ⟨(wrap64 (x26_2 + 1)), (by first | rfl | (simp; done) | (simp [*]; done)), H', ⟨by have := HK1.out; have := HK2.out; omega⟩, ⟨rk HO_279000.out⟩, ⟨rk HO_279001.out⟩, ⟨bk BK270.out⟩, ⟨bk BK278.out⟩, ⟨bset⟩⟩
              ·rw [if_neg c36] at H
               have c36b0 : decide (0 < x19_1) = false := decide_eq_false c36
               clear c36
               have H' := Aside0.mk H
               clear H
               have p280 : 0 ≤ (x26_2 : Int) := of_decide_eq_true asm
               have q280 : x26_2 < ((rd_L1 l0_1 x19_1).length : Int) := of_decide_eq_true asm
               obtain ⟨ad280, e280, hx280_0⟩ := Kd.at_int HR279_0.out x26_2 p280 q280
               cases e280
               (first | replace hx280_0 := (HB.out.cell (World.block_lt_of_cell? w _ hx280_0)).trans hx280_0 | skip)
               replace p280 := eq_true p280
               replace q280 := eq_true q280
               try go_wp2
               have n0_ := Aside0.mk (Kd.R_drew HO_279000.out)
               have n1_ := Aside0.mk (Kd.R_drew HO_279001.out)
               have n2_ := Aside0.mk (blk_drew BK270.out)
               have n3_ := Aside0.mk (blk_drew BK278.out)
               have n4_ := Aside0.mk (below_drew1 HB.out)
               clear HO_279000
               clear HO_279001
               clear BK270
               clear BK278
               clear HB
               have HO_279000 := n0_
               have HO_279001 := n1_
               have BK270 := n2_
               have BK278 := n3_
               have HB := n4_
               clear n0_ n1_ n2_ n3_ n4_
               refine start_ (n := 34) (S := fun w' => True) (ds := []) (tf 34 0) (by kernel_rfl) rfl rfl trivial (fun hHeld => ?_); refine with_tabW impl_IsTableau.tab10 impl_IsTableau.bits10 (fun HT_ HW_ => ?_)
               generalize wr.drew = w44 at HO_279000 HO_279001 BK270 BK278 HB hHeld ⊢
               refine pure1 0 31 (tf 34 1) (ay HT_.out) ?_
               refine one_ (i := 1) (N := some 32) (tf 34 2) rfl rfl (one_of HT_.out (by kernel_rfl)) (by decide) (fun K hK => ?_)
               refine goes_ Tryd.func79 (by kernel_rfl) rfl #[.int .i64 (rd (rd_L1 l0_1 x19_1) x26_2), .int .i64 1, .int .i64 9] (by rfl) rfl rfl lm ?_
               with_reducible refine (impl_within.calls (rd (rd_L1 l0_1 x19_1) x26_2) 1 9 true _ A19.out).mono ?_
               rintro e w' ⟨rfl, ⟨nd, rfl⟩⟩
               refine ⟨_, rfl, ?_⟩
               refine hK.out _ _ trivial (fun hHeld => ?_)
               clear hK K
               refine norm1 ?_
               refine pure1 2 33 (tf 34 3) (ay HT_.out) ?_
               refine pure1 3 34 (tf 34 4) (ay HT_.out) ?_
               refine pure1 4 35 (tf 34 5) (ay HT_.out) ?_
               refine pure1 5 36 (tf 34 6) (ay HT_.out) ?_
               refine pure1 6 37 (tf 34 7) (ay HT_.out) ?_
               refine pure2 7 38 (tf 34 8) (ay HT_.out) ?_
               refine pure2 8 39 (tf 34 9) (ay HT_.out) ?_
               refine pure2 9 40 (tf 34 10) (ay HT_.out) ?_
               refine pure2 10 41 (tf 34 11) (ay HT_.out) ?_
               refine pure2 11 42 (tf 34 12) (ay HT_.out) ?_
               refine pure2 12 43 (tf 34 13) (ay HT_.out) ?_
               refine pure2 13 44 (tf 34 14) (ay HT_.out) ?_
               refine pure1 14 45 (tf 34 15) (ay HT_.out) ?_
               refine pure1 15 46 (tf 34 16) (ay HT_.out) ?_
               refine pure1 16 47 (tf 34 17) (ay HT_.out) ?_
               refine pure1 17 48 (tf 34 18) (ay HT_.out) ?_
               refine pure1 18 49 (tf 34 19) (ay HT_.out) ?_
               refine pure1 19 50 (tf 34 20) (ay HT_.out) ?_
               refine pure2 20 51 (tf 34 21) (ay HT_.out) ?_
               refine pure2 21 52 (tf 34 22) (ay HT_.out) ?_
               refine pure2 22 53 (tf 34 23) (ay HT_.out) ?_
               refine pure2 23 54 (tf 34 24) (ay HT_.out) ?_
               refine pure2 24 55 (tf 34 25) (ay HT_.out) ?_
               refine pure2 25 56 (tf 34 26) (ay HT_.out) ?_
               refine pure2 26 57 (tf 34 27) (ay HT_.out) ?_
               refine pure2 27 58 (tf 34 28) (ay HT_.out) ?_
               refine pure2 28 59 (tf 34 29) (ay HT_.out) ?_
               refine pure2 29 60 (tf 34 30) (ay HT_.out) ?_
               refine pure2 30 61 (tf 34 31) (ay HT_.out) ?_
               refine pure2 31 62 (tf 34 32) (ay HT_.out) ?_
               refine pure1 32 63 (tf 34 33) (ay HT_.out) ?_
               refine pure1 33 64 (tf 34 34) (ay HT_.out) ?_
               refine done_ (done_of HT_.out (by kernel_rfl)) ?_
               try go_wp2
               go_roundg k2
               case measure => have := HK1.out; have := HK2.out; omega
               case rel => exact ⟨(wrap64 (x26_2 + 1)), (by first | rfl | (simp; done) | (simp [*]; done)), H', ⟨by have := HK1.out; have := HK2.out; omega⟩, ⟨rk HO_279000.out⟩, ⟨rk HO_279001.out⟩, ⟨bk BK270.out⟩, ⟨bk BK278.out⟩, ⟨bset⟩⟩
            ·replace c20 := Bool.eq_false_iff.mpr c20
             subst c20
             have H1 : (some false) = some r := by rw [if_neg (show ¬ (false = true) by decide)] at H; exact H
             clear H
             have H := H1
             clear H1
             obtain rfl := Option.some.inj H
             have p280 : 0 ≤ (x26_2 : Int) := of_decide_eq_true asm
             have q280 : x26_2 < ((rd_L1 l0_1 x19_1).length : Int) := of_decide_eq_true asm
             obtain ⟨ad280, e280, hx280_0⟩ := Kd.at_int HR279_0.out x26_2 p280 q280
             cases e280
             (first | replace hx280_0 := (HB.out.cell (World.block_lt_of_cell? w _ hx280_0)).trans hx280_0 | skip)
             replace p280 := eq_true p280
             replace q280 := eq_true q280
             try go_wp2
             have n0_ := Aside0.mk (Kd.R_drew HO_279000.out)
             have n1_ := Aside0.mk (Kd.R_drew HO_279001.out)
             have n2_ := Aside0.mk (blk_drew BK270.out)
             have n3_ := Aside0.mk (blk_drew BK278.out)
             have n4_ := Aside0.mk (below_drew1 HB.out)
             clear HO_279000
             clear HO_279001
             clear BK270
             clear BK278
             clear HB
             have HO_279000 := n0_
             have HO_279001 := n1_
             have BK270 := n2_
             have BK278 := n3_
             have HB := n4_
             clear n0_ n1_ n2_ n3_ n4_
             refine start_ (n := 34) (S := fun w' => True) (ds := []) (tf 34 0) (by kernel_rfl) rfl rfl trivial (fun hHeld => ?_); refine with_tabW impl_IsTableau.tab10 impl_IsTableau.bits10 (fun HT_ HW_ => ?_)
             generalize wr.drew = w45 at HO_279000 HO_279001 BK270 BK278 HB hHeld ⊢
             refine pure1 0 31 (tf 34 1) (ay HT_.out) ?_
             refine one_ (i := 1) (N := some 32) (tf 34 2) rfl rfl (one_of HT_.out (by kernel_rfl)) (by decide) (fun K hK => ?_)
             refine goes_ Tryd.func79 (by kernel_rfl) rfl #[.int .i64 (rd (rd_L1 l0_1 x19_1) x26_2), .int .i64 1, .int .i64 9] (by rfl) rfl rfl lm ?_
             with_reducible refine (impl_within.calls (rd (rd_L1 l0_1 x19_1) x26_2) 1 9 false _ A19.out).mono ?_
             rintro e w' ⟨rfl, ⟨nd, rfl⟩⟩
             refine ⟨_, rfl, ?_⟩
             refine hK.out _ _ trivial (fun hHeld => ?_)
             clear hK K
             refine norm1 ?_
             refine pure1 2 33 (tf 34 3) (ay HT_.out) ?_
             refine pure1 3 34 (tf 34 4) (ay HT_.out) ?_
             refine pure2 4 35 (tf 34 5) (ay HT_.out) ?_
             refine pure2 5 36 (tf 34 6) (ay HT_.out) ?_
             refine pure2 6 37 (tf 34 7) (ay HT_.out) ?_
             refine pure2 7 38 (tf 34 8) (ay HT_.out) ?_
             refine pure2 8 39 (tf 34 9) (ay HT_.out) ?_
             refine pure2 9 40 (tf 34 10) (ay HT_.out) ?_
             refine pure2 10 41 (tf 34 11) (ay HT_.out) ?_
             refine pure2 11 42 (tf 34 12) (ay HT_.out) ?_
             refine pure2 12 43 (tf 34 13) (ay HT_.out) ?_
             refine pure2 13 44 (tf 34 14) (ay HT_.out) ?_
             refine pure2 14 45 (tf 34 15) (ay HT_.out) ?_
             refine pure1 15 46 (tf 34 16) (ay HT_.out) ?_
             refine pure1 16 47 (tf 34 17) (ay HT_.out) ?_
             refine pure2 17 48 (tf 34 18) (ay HT_.out) ?_
             refine pure2 18 49 (tf 34 19) (ay HT_.out) ?_
             refine pure2 19 50 (tf 34 20) (ay HT_.out) ?_
             refine pure2 20 51 (tf 34 21) (ay HT_.out) ?_
             refine pure2 21 52 (tf 34 22) (ay HT_.out) ?_
             refine pure2 22 53 (tf 34 23) (ay HT_.out) ?_
             refine pure2 23 54 (tf 34 24) (ay HT_.out) ?_
             refine pure2 24 55 (tf 34 25) (ay HT_.out) ?_
             refine pure2 25 56 (tf 34 26) (ay HT_.out) ?_
             refine pure2 26 57 (tf 34 27) (ay HT_.out) ?_
             refine pure2 27 58 (tf 34 28) (ay HT_.out) ?_
             refine pure2 28 59 (tf 34 29) (ay HT_.out) ?_
             refine pure2 29 60 (tf 34 30) (ay HT_.out) ?_
             refine pure2 30 61 (tf 34 31) (ay HT_.out) ?_
             refine pure2 31 62 (tf 34 32) (ay HT_.out) ?_
             refine pure2 32 63 (tf 34 33) (ay HT_.out) ?_
             refine pure1 33 64 (tf 34 34) (ay HT_.out) ?_
             refine done_ (done_of HT_.out (by kernel_rfl)) ?_
             try go_wp2
             go_ret
             exact ⟨by first | rfl | (simp [errW_none, errW_some] <;> rfl) | (simp [*, errW_none, errW_some] <;> rfl), bset⟩
           ·rw [if_neg c18] at H
            exact absurd H (by simp)
          ·rw [if_neg c17] at H
           exact absurd H (by simp)
         ·rw [if_neg c16] at H
          have c16b0 : decide (x26_2 < ((rd_L1 l0_1 x19_1).length : Int)) = false := decide_eq_false c16
          clear c16
          have H' := Aside0.mk H
          clear H
          go_wp2
          go_roundg k2
          case measure => have := HK1.out; have := HK2.out; omega
          case rel => exact ⟨(wrap64 (x19_1 + 1)), (by first | rfl | (simp; done) | (simp [*]; done)), H', ⟨by have := HK1.out; have := HK2.out; omega⟩, ⟨rk HO_279000.out⟩, ⟨rk HO_279001.out⟩, ⟨bk BK270.out⟩, ⟨bk BK278.out⟩, ⟨bset⟩⟩
      ·rw [if_neg c15] at H
       exact absurd H (by simp)
     ·rw [if_neg c14] at H
      exact absurd H (by simp)
    ·rw [if_neg c13] at H
     have c13b0 : decide (x19_1 < (l0_1.length : Int)) = false := decide_eq_false c13
     clear c13
     obtain rfl := Option.some.inj H
     go_wp2
     go_ret
     exact ⟨by first | rfl | (simp [errW_none, errW_some] <;> rfl) | (simp [*, errW_none, errW_some] <;> rfl), bset⟩
 ·replace c3 := Bool.eq_false_iff.mpr c3
  subst c3
  have H1 : (some false) = some r := by rw [if_neg (show ¬ (false = true) by decide)] at H; exact H
  clear H
  have H := H1
  clear H1
  obtain rfl := Option.some.inj H
  go_enter Tryd.func67, Tryd.ntmps67
  go_wp2_with (first | ((with_reducible refine gate_dst (N := 1) rfl ?_); refine box_event ?hg (N := 1) ?hd (cs := #[.slice A0_0 l0_0.length c0_0, .slice A0_1 l0_1.length c0_1]) (t := 50) ?hr ?_; (case hd => rfl); (case hg => rfl); (case hr => first | (go_simp; done) | (go_simp; rfl)); intro gb270 hg w46 hbox hb; have n0_ := Aside0.mk (below_step bnow hb); have n1_ := Aside0.mk (hbox); have n2_ := Aside0.mk ((by rw [hg]; exact (below_size bnow) : w.heap.size ≤ gb270)); have n3_ := Aside0.mk ((by rw [hg]; exact (below_size bnow) : w.heap.size ≤ gb270)); clear HB; have HB := n0_; have BK270 := n1_; have GW270 := n2_; have GE270 := n3_; clear n0_ n1_ n2_ n3_; clear hb hbox hg; have hcz47_0 : w46.cell? ⟨gb270, 0, none⟩ = some (.slice A0_0 l0_0.length c0_0) := (blk_cell BK270.out 0).trans rfl; have hcz47_1 : w46.cell? ⟨gb270, 1, none⟩ = some (.slice A0_1 l0_1.length c0_1) := (blk_cell BK270.out 1).trans rfl; have hfz47_0 := blk_frozen BK270.out 0; have hfz47_1 := blk_frozen BK270.out 1) | ((with_reducible refine gate_callee (f := 85) rfl ?_); refine goesL_ (some 11) rfl rfl Tryd.func85 (by kernel_rfl) rfl #[.agg #[.slice A0_0 l0_0.length c0_0, .slice A0_1 l0_1.length c0_1]] rfl lm ?_; (with_reducible refine (impl_ShapeOf.calls k _ _ l0_0 _ _ l0_1 t271 t274 false _ ?side1 ?side2 ?side3 ?side4 A2.out).mono ?_); (case side1 => exact cb HR0_0.out); (case side2 => exact HC0_0.out); (case side3 => exact cb HR0_1.out); (case side4 => exact HC0_1.out); rintro e w48 ⟨v272, v275, rfl, ho0, ho1, hb⟩; refine ⟨_, rfl, ?_⟩; have n0_ := Aside0.mk (Kd.R_lower ho0 (below_size bset)); have n1_ := Aside0.mk (Kd.R_lower ho1 (below_size bset)); have n2_ := Aside0.mk (blk_below (bk BK270.out) hb); have n3_ := Aside0.mk (below_step bset hb); clear BK270; clear HB; have HO273 := n0_; have HO276 := n1_; have BK270 := n2_; have HB := n3_; clear n0_ n1_ n2_ n3_; (try clear hb); (try clear hb2); (try clear hk); (try clear hi); (try clear ho0); (try clear ho1)) | ((with_reducible refine gate_dst (N := 3) rfl ?_); refine box_event ?hg (N := 3) ?hd (cs := #[.slice none 0 0, .slice none 0 0]) (t := 38) ?hr ?_; (case hd => rfl); (case hg => rfl); (case hr => first | (go_simp; done) | (go_simp; rfl)); intro gb278 hg w49 hbox hb; have n0_ := Aside0.mk (Kd.R_below (rk HO273.out) hb); have n1_ := Aside0.mk (Kd.R_below (rk HO276.out) hb); have n2_ := Aside0.mk (blk_below (bk BK270.out) hb); have n3_ := Aside0.mk (below_step bset hb); have n4_ := Aside0.mk (hbox); have n5_ := Aside0.mk ((by rw [hg]; exact (below_size bset) : w.heap.size ≤ gb278)); have n6_ := Aside0.mk ((by rw [hg]; exact (below_size bset) : w.heap.size ≤ gb278)); have n7_ := Aside0.mk ((by rw [hg]; exact Nat.ne_of_lt (blk_lt (g := gb270) (o := .cells #[.slice A0_0 l0_0.length c0_0, .slice A0_1 l0_1.length c0_1] 50 (0, 0)) (bk BK270.out)) : gb270 ≠ gb278)); have n8_ := Aside0.mk ((by rw [hg]; exact Nat.ne_of_gt (blk_lt (g := gb270) (o := .cells #[.slice A0_0 l0_0.length c0_0, .slice A0_1 l0_1.length c0_1] 50 (0, 0)) (bk BK270.out)) : gb278 ≠ gb270)); clear HO273; clear HO276; clear BK270; clear HB; have HO273 := n0_; have HO276 := n1_; have BK270 := n2_; have HB := n3_; have BK278 := n4_; have GW278 := n5_; have GE278 := n6_; have NB270_278 := n7_; have NB278_270 := n8_; clear n0_ n1_ n2_ n3_ n4_ n5_ n6_ n7_ n8_; clear hb hbox hg; obtain ⟨Ao50, co50, eo50⟩ := Kd.R_slice HO273.out; subst eo50; have hnb51 := NB278_270.out; have hnc51 := NB270_278.out; have hcz52_0 : w49.cell? ⟨gb278, 0, none⟩ = some (.slice none 0 0) := (blk_cell BK278.out 0).trans rfl; have hcz52_1 : w49.cell? ⟨gb278, 1, none⟩ = some (.slice none 0 0) := (blk_cell BK278.out 1).trans rfl; have hfz52_0 := blk_frozen BK278.out 0; have hfz52_1 := blk_frozen BK278.out 1; obtain ⟨Ao53, co53, eo53⟩ := Kd.R_slice HO276.out; subst eo53))
  go_ret
  exact ⟨by first | rfl | (simp [errW_none, errW_some] <;> rfl) | (simp [*, errW_none, errW_some] <;> rfl), bset⟩

end Go.Proofs.YtcegeleoicjciaaDoor.QFnExactParseTableau
