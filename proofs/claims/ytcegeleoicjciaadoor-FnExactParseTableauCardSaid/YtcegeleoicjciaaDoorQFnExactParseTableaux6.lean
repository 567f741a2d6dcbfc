/- A text of this session's own program (wip/myprint.py): functions that the law FnExactParseTableau reaches, as plain Lean functions, each with the proof that the call does just that. No condition beyond those that each statement bears. -/
import Derived.Test.YtcegeleoicjciaaDoorQFnExactParseTableaux0
import Derived.Test.YtcegeleoicjciaaDoorQFnExactParseTableaux1
import Derived.Test.YtcegeleoicjciaaDoorQFnExactParseTableaux4
import Derived.Test.YtcegeleoicjciaaDoorQFnExactParseTableaux5
namespace Go.Proofs.YtcegeleoicjciaaDoor.QFnExactParseTableau
open Go.Proofs.YtcegeleoicjciaaDoor.Short Go.RowKit Go.Proofs.YtcegeleoicjciaaDoorW.PrintWords Go.Proofs.YtcegeleoicjciaaDoorW.PrintLast Go.Proofs.YtcegeleoicjciaaDoorW.PrintMore
attribute [local go_sem] max2_int min2_int max_two min_two max_three min_three max_four min_four   -- for this text's walks alone
set_option linter.unusedVariables false
set_option linter.unusedSimpArgs false

/-! ### spec_ParseTableau: function 46 -/
mutual
def spec_ParseTableau.l0 : Nat → ByteArray → List ByteArray → Int → List Int → List (List Int) → Option (List Int × (List (List Int)) × Bool)
 | 0, _, _, _, _, _ => none
 | k + 1, x0, x5, x6, x203000, x203001 => if x6 < (x5.length : Int) then (spec_ParseTableau.j1 k x0 x5 x6 (x0.toList != ([45] : List UInt8)) x203000 x203001) else (spec_ParseTableau.j1 k x0 x5 x6 false x203000 x203001)
def spec_ParseTableau.j1 : Nat → ByteArray → List ByteArray → Int → Bool → List Int → List (List Int) → Option (List Int × (List (List Int)) × Bool)
 | 0, _, _, _, _, _, _ => none
 | k + 1, x0, x5, x6, x20, x203000, x203001 => if x20 = true then (spec_ParseTableau.l1 k x0 x5 x6 0 x203000 x203001) else ((spec_IsTableau.f k x203000 x203001).bind fun t222 => (if t222 = true then ((spec_TableauText.f k x203000 x203001).bind fun t223 => (if t223.toList = x0.toList then (some (x203000, x203001, true)) else (some (([] : List Int), ([] : List (List Int)), false)))) else (some (([] : List Int), ([] : List (List Int)), false))))
def spec_ParseTableau.j3 : Nat → ByteArray → List ByteArray → Int → Int → List Int → List (List Int) → Option (List Int × (List (List Int)) × Bool)
 | 0, _, _, _, _, _, _ => none
 | k + 1, x0, x5, x6, x7, x203000, x203001 => if x7 > 0 then (if x203000.length < 17592186044416 then (spec_ParseTableau.j4 k x0 x5 x6 x7 (x203000 ++ [x7]) x203001) else (none)) else (spec_ParseTableau.j4 k x0 x5 x6 x7 x203000 x203001)
def spec_ParseTableau.j4 : Nat → ByteArray → List ByteArray → Int → Int → List Int → List (List Int) → Option (List Int × (List (List Int)) × Bool)
 | 0, _, _, _, _, _, _ => none
 | k + 1, x0, x5, x6, x7, x203000, x203001 => spec_ParseTableau.l2 k x0 x5 x6 (([] : List Int)) x7 x203000 x203001
def spec_ParseTableau.l2 : Nat → ByteArray → List ByteArray → Int → List Int → Int → List Int → List (List Int) → Option (List Int × (List (List Int)) × Bool)
 | 0, _, _, _, _, _, _, _ => none
 | k + 1, x0, x5, x6, x8, x9, x203000, x203001 => if 0 ≤ x6 then (if x6 < (x5.length : Int) then (if x9 < ((rdOf ByteArray.empty x5 x6).size : Int) then (if 0 ≤ x9 then (if x8.length < 17592186044416 then (spec_ParseTableau.l2 k x0 x5 x6 (x8 ++ [wrap64 ((wrap64 (bt (rdOf ByteArray.empty x5 x6) x9)) - 48)]) (wrap64 (x9 + 1)) x203000 x203001) else (none)) else (none)) else (if x203001.length < 5864062014805 then (spec_ParseTableau.l0 k x0 x5 (wrap64 (x6 + 1)) x203000 (x203001 ++ [x8])) else (none))) else (none)) else (none)
def spec_ParseTableau.l1 : Nat → ByteArray → List ByteArray → Int → Int → List Int → List (List Int) → Option (List Int × (List (List Int)) × Bool)
 | 0, _, _, _, _, _, _ => none
 | k + 1, x0, x5, x6, x7, x203000, x203001 => if 0 ≤ x6 then (if x6 < (x5.length : Int) then (if x7 < ((rdOf ByteArray.empty x5 x6).size : Int) then (if 0 ≤ x7 then (if (bt (rdOf ByteArray.empty x5 x6) x7) = 46 then (spec_ParseTableau.l1 k x0 x5 x6 (wrap64 (x7 + 1)) x203000 x203001) else (spec_ParseTableau.j3 k x0 x5 x6 x7 x203000 x203001)) else (none)) else (spec_ParseTableau.j3 k x0 x5 x6 x7 x203000 x203001)) else (none)) else (none)
end
def spec_ParseTableau.f (k : Nat) (a0 : ByteArray) : Option (List Int × (List (List Int)) × Bool) := (spec_SplitByte.f k a0 47).bind fun t203 => (spec_ParseTableau.l0 k a0 t203 0 ([] : List Int) ([] : List (List Int)))
theorem spec_ParseTableau.mono_l : ∀ k, (∀ y0 y1 y2 y3 y4, LeO (spec_ParseTableau.l0 k y0 y1 y2 y3 y4) (spec_ParseTableau.l0 (k + 1) y0 y1 y2 y3 y4)) ∧ (∀ y0 y1 y2 y3 y4 y5, LeO (spec_ParseTableau.j1 k y0 y1 y2 y3 y4 y5) (spec_ParseTableau.j1 (k + 1) y0 y1 y2 y3 y4 y5)) ∧ (∀ y0 y1 y2 y3 y4 y5, LeO (spec_ParseTableau.j3 k y0 y1 y2 y3 y4 y5) (spec_ParseTableau.j3 (k + 1) y0 y1 y2 y3 y4 y5)) ∧ (∀ y0 y1 y2 y3 y4 y5, LeO (spec_ParseTableau.j4 k y0 y1 y2 y3 y4 y5) (spec_ParseTableau.j4 (k + 1) y0 y1 y2 y3 y4 y5)) ∧ (∀ y0 y1 y2 y3 y4 y5 y6, LeO (spec_ParseTableau.l2 k y0 y1 y2 y3 y4 y5 y6) (spec_ParseTableau.l2 (k + 1) y0 y1 y2 y3 y4 y5 y6)) ∧ (∀ y0 y1 y2 y3 y4 y5, LeO (spec_ParseTableau.l1 k y0 y1 y2 y3 y4 y5) (spec_ParseTableau.l1 (k + 1) y0 y1 y2 y3 y4 y5))
 | 0 => ⟨fun _ _ _ _ _ r h => by simp [spec_ParseTableau.l0] at h, fun _ _ _ _ _ _ r h => by simp [spec_ParseTableau.j1] at h, fun _ _ _ _ _ _ r h => by simp [spec_ParseTableau.j3] at h, fun _ _ _ _ _ _ r h => by simp [spec_ParseTableau.j4] at h, fun _ _ _ _ _ _ _ r h => by simp [spec_ParseTableau.l2] at h, fun _ _ _ _ _ _ r h => by simp [spec_ParseTableau.l1] at h⟩
 | k + 1 => by
  obtain ⟨ih0, ih1, ih2, ih3, ih4, ih5⟩ := spec_ParseTableau.mono_l k
  refine ⟨?_, ?_, ?_, ?_, ?_, ?_⟩
  ·intro y0 y1 y2 y3 y4
   unfold spec_ParseTableau.l0
   repeat' first
   | (with_reducible exact ih0 _ _ _ _ _)
   | (with_reducible exact ih1 _ _ _ _ _ _)
   | (with_reducible exact ih2 _ _ _ _ _ _)
   | (with_reducible exact ih3 _ _ _ _ _ _)
   | (with_reducible exact ih4 _ _ _ _ _ _ _)
   | (with_reducible exact ih5 _ _ _ _ _ _)
   | (with_reducible exact spec_IsTableau.mono _ _ _)
   | (with_reducible exact spec_SplitByte.mono _ _ _)
   | (with_reducible exact spec_TableauText.mono _ _ _)
   | (with_reducible exact LeO.refl _)
   | (with_reducible exact LeO.none _)
   | (with_reducible refine LeO.ite ?_ ?_)
   | (with_reducible refine LeO.bind ?_ (fun _ => ?_))
   | exact ih0 _ _ _ _ _
   | exact ih1 _ _ _ _ _ _
   | exact ih2 _ _ _ _ _ _
   | exact ih3 _ _ _ _ _ _
   | exact ih4 _ _ _ _ _ _ _
   | exact ih5 _ _ _ _ _ _
   | exact spec_IsTableau.mono _ _ _
   | exact spec_SplitByte.mono _ _ _
   | exact spec_TableauText.mono _ _ _
   | exact LeO.none _
   | refine LeO.ite ?_ ?_
   | refine LeO.bind ?_ (fun _ => ?_)
  ·intro y0 y1 y2 y3 y4 y5
   unfold spec_ParseTableau.j1
   repeat' first
   | (with_reducible exact ih0 _ _ _ _ _)
   | (with_reducible exact ih1 _ _ _ _ _ _)
   | (with_reducible exact ih2 _ _ _ _ _ _)
   | (with_reducible exact ih3 _ _ _ _ _ _)
   | (with_reducible exact ih4 _ _ _ _ _ _ _)
   | (with_reducible exact ih5 _ _ _ _ _ _)
   | (with_reducible exact spec_IsTableau.mono _ _ _)
   | (with_reducible exact spec_SplitByte.mono _ _ _)
   | (with_reducible exact spec_TableauText.mono _ _ _)
   | (with_reducible exact LeO.refl _)
   | (with_reducible exact LeO.none _)
   | (with_reducible refine LeO.ite ?_ ?_)
   | (with_reducible refine LeO.bind ?_ (fun _ => ?_))
   | exact ih0 _ _ _ _ _
   | exact ih1 _ _ _ _ _ _
   | exact ih2 _ _ _ _ _ _
   | exact ih3 _ _ _ _ _ _
   | exact ih4 _ _ _ _ _ _ _
   | exact ih5 _ _ _ _ _ _
   | exact spec_IsTableau.mono _ _ _
   | exact spec_SplitByte.mono _ _ _
   | exact spec_TableauText.mono _ _ _
   | exact LeO.none _
   | refine LeO.ite ?_ ?_
   | refine LeO.bind ?_ (fun _ => ?_)
  ·intro y0 y1 y2 y3 y4 y5
   unfold spec_ParseTableau.j3
   repeat' first
   | (with_reducible exact ih0 _ _ _ _ _)
   | (with_reducible exact ih1 _ _ _ _ _ _)
   | (with_reducible exact ih2 _ _ _ _ _ _)
   | (with_reducible exact ih3 _ _ _ _ _ _)
   | (with_reducible exact ih4 _ _ _ _ _ _ _)
   | (with_reducible exact ih5 _ _ _ _ _ _)
   | (with_reducible exact spec_IsTableau.mono _ _ _)
   | (with_reducible exact spec_SplitByte.mono _ _ _)
   | (with_reducible exact spec_TableauText.mono _ _ _)
   | (with_reducible exact LeO.refl _)
   | (with_reducible exact LeO.none _)
   | (with_reducible refine LeO.ite ?_ ?_)
   | (with_reducible refine LeO.bind ?_ (fun _ => ?_))
   | exact ih0 _ _ _ _ _
   | exact ih1 _ _ _ _ _ _
   | exact ih2 _ _ _ _ _ _
   | exact ih3 _ _ _ _ _ _
   | exact ih4 _ _ _ _ _ _ _
   | exact ih5 _ _ _ _ _ _
   | exact spec_IsTableau.mono _ _ _
   | exact spec_SplitByte.mono _ _ _
   | exact spec_TableauText.mono _ _ _
   | exact LeO.none _
   | refine LeO.ite ?_ ?_
   | refine LeO.bind ?_ (fun _ => ?_)
  ·intro y0 y1 y2 y3 y4 y5
   unfold spec_ParseTableau.j4
   repeat' first
   | (with_reducible exact ih0 _ _ _ _ _)
   | (with_reducible exact ih1 _ _ _ _ _ _)
   | (with_reducible exact ih2 _ _ _ _ _ _)
   | (with_reducible exact ih3 _ _ _ _ _ _)
   | (with_reducible exact ih4 _ _ _ _ _ _ _)
   | (with_reducible exact ih5 _ _ _ _ _ _)
   | (with_reducible exact spec_IsTableau.mono _ _ _)
   | (with_reducible exact spec_SplitByte.mono _ _ _)
   | (with_reducible exact spec_TableauText.mono _ _ _)
   | (with_reducible exact LeO.refl _)
   | (with_reducible exact LeO.none _)
   | (with_reducible refine LeO.ite ?_ ?_)
   | (with_reducible refine LeO.bind ?_ (fun _ => ?_))
   | exact ih0 _ _ _ _ _
   | exact ih1 _ _ _ _ _ _
   | exact ih2 _ _ _ _ _ _
   | exact ih3 _ _ _ _ _ _
   | exact ih4 _ _ _ _ _ _ _
   | exact ih5 _ _ _ _ _ _
   | exact spec_IsTableau.mono _ _ _
   | exact spec_SplitByte.mono _ _ _
   | exact spec_TableauText.mono _ _ _
   | exact LeO.none _
   | refine LeO.ite ?_ ?_
   | refine LeO.bind ?_ (fun _ => ?_)
  ·intro y0 y1 y2 y3 y4 y5 y6
   unfold spec_ParseTableau.l2
   repeat' first
   | (with_reducible exact ih0 _ _ _ _ _)
   | (with_reducible exact ih1 _ _ _ _ _ _)
   | (with_reducible exact ih2 _ _ _ _ _ _)
   | (with_reducible exact ih3 _ _ _ _ _ _)
   | (with_reducible exact ih4 _ _ _ _ _ _ _)
   | (with_reducible exact ih5 _ _ _ _ _ _)
   | (with_reducible exact spec_IsTableau.mono _ _ _)
   | (with_reducible exact spec_SplitByte.mono _ _ _)
   | (with_reducible exact spec_TableauText.mono _ _ _)
   | (with_reducible exact LeO.refl _)
   | (with_reducible exact LeO.none _)
   | (with_reducible refine LeO.ite ?_ ?_)
   | (with_reducible refine LeO.bind ?_ (fun _ => ?_))
   | exact ih0 _ _ _ _ _
   | exact ih1 _ _ _ _ _ _
   | exact ih2 _ _ _ _ _ _
   | exact ih3 _ _ _ _ _ _
   | exact ih4 _ _ _ _ _ _ _
   | exact ih5 _ _ _ _ _ _
   | exact spec_IsTableau.mono _ _ _
   | exact spec_SplitByte.mono _ _ _
   | exact spec_TableauText.mono _ _ _
   | exact LeO.none _
   | refine LeO.ite ?_ ?_
   | refine LeO.bind ?_ (fun _ => ?_)
  ·intro y0 y1 y2 y3 y4 y5
   unfold spec_ParseTableau.l1
   repeat' first
   | (with_reducible exact ih0 _ _ _ _ _)
   | (with_reducible exact ih1 _ _ _ _ _ _)
   | (with_reducible exact ih2 _ _ _ _ _ _)
   | (with_reducible exact ih3 _ _ _ _ _ _)
   | (with_reducible exact ih4 _ _ _ _ _ _ _)
   | (with_reducible exact ih5 _ _ _ _ _ _)
   | (with_reducible exact spec_IsTableau.mono _ _ _)
   | (with_reducible exact spec_SplitByte.mono _ _ _)
   | (with_reducible exact spec_TableauText.mono _ _ _)
   | (with_reducible exact LeO.refl _)
   | (with_reducible exact LeO.none _)
   | (with_reducible refine LeO.ite ?_ ?_)
   | (with_reducible refine LeO.bind ?_ (fun _ => ?_))
   | exact ih0 _ _ _ _ _
   | exact ih1 _ _ _ _ _ _
   | exact ih2 _ _ _ _ _ _
   | exact ih3 _ _ _ _ _ _
   | exact ih4 _ _ _ _ _ _ _
   | exact ih5 _ _ _ _ _ _
   | exact spec_IsTableau.mono _ _ _
   | exact spec_SplitByte.mono _ _ _
   | exact spec_TableauText.mono _ _ _
   | exact LeO.none _
   | refine LeO.ite ?_ ?_
   | refine LeO.bind ?_ (fun _ => ?_)
theorem spec_ParseTableau.mono : ∀ a0 k, LeO (spec_ParseTableau.f k a0) (spec_ParseTableau.f (k + 1) a0) := by
 intro a0 k
 obtain ⟨ih0, ih1, ih2, ih3, ih4, ih5⟩ := spec_ParseTableau.mono_l k
 unfold spec_ParseTableau.f
 repeat' first
   | (with_reducible exact ih0 _ _ _ _ _)
   | (with_reducible exact ih1 _ _ _ _ _ _)
   | (with_reducible exact ih2 _ _ _ _ _ _)
   | (with_reducible exact ih3 _ _ _ _ _ _)
   | (with_reducible exact ih4 _ _ _ _ _ _ _)
   | (with_reducible exact ih5 _ _ _ _ _ _)
   | (with_reducible exact spec_IsTableau.mono _ _ _)
   | (with_reducible exact spec_SplitByte.mono _ _ _)
   | (with_reducible exact spec_TableauText.mono _ _ _)
   | (with_reducible exact LeO.refl _)
   | (with_reducible exact LeO.none _)
   | (with_reducible refine LeO.ite ?_ ?_)
   | (with_reducible refine LeO.bind ?_ (fun _ => ?_))
   | exact ih0 _ _ _ _ _
   | exact ih1 _ _ _ _ _ _
   | exact ih2 _ _ _ _ _ _
   | exact ih3 _ _ _ _ _ _
   | exact ih4 _ _ _ _ _ _ _
   | exact ih5 _ _ _ _ _ _
   | exact spec_IsTableau.mono _ _ _
   | exact spec_SplitByte.mono _ _ _
   | exact spec_TableauText.mono _ _ _
   | exact LeO.none _
   | refine LeO.ite ?_ ?_
   | refine LeO.bind ?_ (fun _ => ?_)
set_option maxHeartbeats 8000000 in
set_option maxRecDepth 100000 in
theorem spec_ParseTableau.calls (k : Nat) (a0 : ByteArray) (r1 : List Int) (r2 : List (List Int)) (r3 : Bool) (w : World) (h : spec_ParseTableau.f k a0 = some (r1, r2, r3)) :
  Calls Tryd.prog 46 #[.string a0] w fun e w' => ∃ v0_ v1_ : Value, e = .returned (.tuple #[.agg #[v0_, v1_], .bool r3]) ∧ Kd.R (Kd.int .i64) 3 w' w.heap.size (fun _ => True) v0_ r1 ∧ Kd.S (Kd.slice 3 (Kd.int .i64)) 29 w' w.heap.size (fun k_ => some k_ ≠ (v0_ : Value).ownBlock) v1_ r2 ∧ Below w.heap.size w w' := by
 have hu50 := Tryd.underlying50
 have HB := Aside0.mk (Below.refl w.heap.size w)
 have H : ((spec_SplitByte.f k a0 47).bind fun t203 => (spec_ParseTableau.l0 k a0 t203 0 ([] : List Int) ([] : List (List Int)))) = some (r1, r2, r3) := h
 clear h
 replace H := Option.bind_eq_some_iff.mp H
 obtain ⟨t203, A20, H⟩ := H
 replace H : (spec_ParseTableau.l0 k a0 t203 0 ([] : List Int) ([] : List (List Int))) = some (r1, r2, r3) := H
 have A2 := Aside0.mk A20
 clear A20
 have H' := Aside0.mk H
 clear H
 go_enter Tryd.func46, Tryd.ntmps46
 go_wp2_with (first | ((with_reducible refine gate_dst (N := 2) rfl ?_); refine box_event ?hg (N := 2) ?hd (cs := #[.slice none 0 0, .slice none 0 0]) (t := 50) ?hr ?_; (case hd => rfl); (case hg => rfl); (case hr => first | (go_simp; done) | (go_simp; rfl)); intro gb201 hg w3 hbox hb; have n0_ := Aside0.mk (below_step bnow hb); have n1_ := Aside0.mk (hbox); have n2_ := Aside0.mk ((by rw [hg]; exact (below_size bnow) : w.heap.size ≤ gb201)); have n3_ := Aside0.mk ((by rw [hg]; exact (below_size bnow) : w.heap.size ≤ gb201)); clear HB; have HB := n0_; have BK201 := n1_; have GW201 := n2_; have GE201 := n3_; clear n0_ n1_ n2_ n3_; clear hb hbox hg) | ((with_reducible refine gate_dst (N := 4) rfl ?_); refine box_event ?hg (N := 4) ?hd (cs := #[.slice none 0 0, .slice none 0 0]) (t := 50) ?hr ?_; (case hd => rfl); (case hg => rfl); (case hr => first | (go_simp; done) | (go_simp; rfl)); intro gb202 hg w4 hbox hb; have n0_ := Aside0.mk (blk_below (bk BK201.out) hb); have n1_ := Aside0.mk (below_step bset hb); have n2_ := Aside0.mk (hbox); have n3_ := Aside0.mk ((by rw [hg]; exact (below_size bset) : w.heap.size ≤ gb202)); have n4_ := Aside0.mk ((by rw [hg]; exact (below_size bset) : w.heap.size ≤ gb202)); have n5_ := Aside0.mk ((by rw [hg]; exact Nat.ne_of_lt (blk_lt (g := gb201) (o := .cells #[.slice none 0 0, .slice none 0 0] 50 (0, 0)) (bk BK201.out)) : gb201 ≠ gb202)); have n6_ := Aside0.mk ((by rw [hg]; exact Nat.ne_of_gt (blk_lt (g := gb201) (o := .cells #[.slice none 0 0, .slice none 0 0] 50 (0, 0)) (bk BK201.out)) : gb202 ≠ gb201)); clear BK201; clear HB; have BK201 := n0_; have HB := n1_; have BK202 := n2_; have GW202 := n3_; have GE202 := n4_; have NB201_202 := n5_; have NB202_201 := n6_; clear n0_ n1_ n2_ n3_ n4_ n5_ n6_; clear hb hbox hg; have hnb5 := NB202_201.out; have hnc5 := NB201_202.out; have hcz6_0 : w4.cell? ⟨gb202, 0, none⟩ = some (.slice none 0 0) := (blk_cell BK202.out 0).trans rfl; have hcz6_1 : w4.cell? ⟨gb202, 1, none⟩ = some (.slice none 0 0) := (blk_cell BK202.out 1).trans rfl; have hfz6_0 := blk_frozen BK202.out 0; have hfz6_1 := blk_frozen BK202.out 1) | ((with_reducible refine gate_callee (f := 15) rfl ?_); refine goesL_ (some 12) rfl rfl Tryd.func15 (by kernel_rfl) rfl #[.string a0, .int .u8 47] rfl lm ?_; (with_reducible refine (spec_SplitByte.calls k a0 47 t203 _ A2.out).mono ?_); rintro e w7 ⟨v204, rfl, ho0, hb⟩; refine ⟨_, rfl, ?_⟩; have n0_ := Aside0.mk (Kd.R_lower ho0 (below_size bset)); have n1_ := Aside0.mk (blk_below (g := gb201) (o := .cells #[.slice none 0 0, .slice none 0 0] 50 (0, 0)) (by (with_reducible repeat (first | refine blk_drewN ?_ _ | refine blk_drew ?_ | refine blk_alloc ?_ _)); refine blk_far ?_ NB201_202.out _; (with_reducible repeat (first | refine blk_drewN ?_ _ | refine blk_drew ?_ | refine blk_alloc ?_ _)); refine blk_far ?_ NB201_202.out _; (with_reducible repeat (first | refine blk_drewN ?_ _ | refine blk_drew ?_ | refine blk_alloc ?_ _)); exact BK201.out) hb); have n2_ := Aside0.mk (blk_below (g := gb202) (o := .cells #[.slice none 0 0, .slice none 0 0] 50 (0, 0)) (by (with_reducible repeat (first | refine blk_drewN ?_ _ | refine blk_drew ?_ | refine blk_alloc ?_ _)); refine blk_put (cs := #[.slice none 0 0, .slice none 0 0]) ?_ 1 _ rfl; (with_reducible repeat (first | refine blk_drewN ?_ _ | refine blk_drew ?_ | refine blk_alloc ?_ _)); refine blk_put (cs := #[.slice none 0 0, .slice none 0 0]) ?_ 0 _ rfl; (with_reducible repeat (first | refine blk_drewN ?_ _ | refine blk_drew ?_ | refine blk_alloc ?_ _)); exact BK202.out) hb); have n3_ := Aside0.mk (below_step bset hb); clear BK201; clear BK202; clear HB; have HO205 := n0_; have BK201 := n1_; have BK202 := n2_; have HB := n3_; clear n0_ n1_ n2_ n3_; (try clear hb); (try clear hb2); (try clear hk); (try clear hi); (try clear ho0)))
 go_loopg [6] k (fun kq v6 w' => ∃ (x6_1 : Int) (x203000_1 : List Int) (x203001_1 : List (List Int)) (u203000 : Value) (u203001 : Value), v6 = .int .i64 x6_1 ∧ Aside0 (spec_ParseTableau.l0 kq a0 t203 x6_1 x203000_1 x203001_1 = some (r1, r2, r3)) ∧ Aside0 (kq ≤ k) ∧ Aside0 (Kd.R Kd.string 9 w' w.heap.size (fun _ => True) v204 t203) ∧ Aside0 (Kd.R (Kd.int .i64) 3 w' w.heap.size (fun _ => True) u203000 x203000_1) ∧ Aside0 (Kd.S (Kd.slice 3 (Kd.int .i64)) 29 w' w.heap.size (fun k_ => some k_ ≠ (u203000 : Value).ownBlock) u203001 x203001_1) ∧ Aside0 (w'.heap[gb201]? = some (.cells #[(.slice none 0 0), (.slice none 0 0)] 50 (0, 0))) ∧ Aside0 (w'.heap[gb202]? = some (.cells #[u203000, u203001] 50 (0, 0))) ∧ Aside0 (Below w.heap.size w w'))
 case atStart => exact ⟨(0), (([] : List Int)), (([] : List (List Int))), (.slice none 0 0), (.slice none 0 0), (by first | rfl | (simp; done) | (simp [*]; done)), H', ⟨Nat.le_refl _⟩, ⟨rk HO205.out⟩, ⟨by first | exact Kd.R_nil _ _ _ _ _ | exact Kd.N_nil _ _ _ _ _ | exact Kd.V_nil _ _ _ _ _ | exact Kd.Q_nil _ _ _ _ _ | exact Kd.S_nil _ _ _ _ _⟩, ⟨by first | exact Kd.S_nil _ _ _ _ _ | exact Kd.N_nil _ _ _ _ _ | exact Kd.V_nil _ _ _ _ _ | exact Kd.Q_nil _ _ _ _ _ | exact Kd.R_nil _ _ _ _ _⟩, ⟨bk BK201.out⟩, ⟨bk BK202.out⟩, ⟨bset⟩⟩
 case round =>
  clear H'
  try clear c1
  try clear p2
  try clear c4
  try clear c5
  try clear hcz6_0
  try clear hcz6_1
  try clear hfz6_0
  try clear hfz6_1
  obtain ⟨x6_1, x203000_1, x203001_1, u203000, u203001, rfl, HA, HK1, HO_5, HO_203000, HO_203001, BK201, BK202, HB⟩ := hrel
  cases gk with
  | zero => exact absurd HA.out (by simp [spec_ParseTableau.l0])
  | succ k1 =>
   have H := HA.out
   clear HA
   simp only [spec_ParseTableau.l0] at H
   have HC8 := Aside0.mk H
   clear H
   go_upto_region 4 with (fail)
   go_cut [20] (fun v20 wc => ∃ (kq : Nat) (x20_7 : Bool), v20 = .bool x20_7 ∧ Aside0 (spec_ParseTableau.j1 kq a0 t203 x6_1 x20_7 x203000_1 x203001_1 = some (r1, r2, r3)) ∧ Aside0 (kq ≤ k1) ∧ Aside0 (Kd.R Kd.string 9 wc w.heap.size (fun _ => True) v204 t203) ∧ Aside0 (Kd.R (Kd.int .i64) 3 wc w.heap.size (fun _ => True) u203000 x203000_1) ∧ Aside0 (Kd.S (Kd.slice 3 (Kd.int .i64)) 29 wc w.heap.size (fun k_ => some k_ ≠ (u203000 : Value).ownBlock) u203001 x203001_1) ∧ Aside0 (wc.heap[gb201]? = some (.cells #[(.slice none 0 0), (.slice none 0 0)] 50 (0, 0))) ∧ Aside0 (wc.heap[gb202]? = some (.cells #[u203000, u203001] 50 (0, 0))) ∧ Aside0 (Below w.heap.size w wc))
   case first =>
    have H := HC8.out
    clear HC8
    by_cases c9 : x6_1 < (t203.length : Int)
    ·rw [if_pos c9] at H
     have c9b0 : decide (x6_1 < (t203.length : Int)) = true := decide_eq_true c9
     clear c9
     (first | rw [c9b0] | (simp only [i64_w, i32_w]; rw [c9b0]) | skip)
     have H' := Aside0.mk H
     clear H
     obtain ⟨Ao10, co10, eo10⟩ := Kd.R_slice HO_5.out
     subst eo10
     go_wp2
     go_meet
     case rel => exact ⟨_, ((a0.toList != ([45] : List UInt8))), (by first | rfl | (simp; done) | (simp [*]; done)), H', ⟨by have := HK1.out; first | omega | exact Nat.le_refl _⟩, ⟨rk HO_5.out⟩, ⟨rk HO_203000.out⟩, ⟨by (with_reducible repeat (first | apply Kd.S_alloc | apply Kd.S_drewN | apply Kd.S_drew)); exact HO_203001.out⟩, ⟨bk BK201.out⟩, ⟨bk BK202.out⟩, ⟨bset⟩⟩
    ·rw [if_neg c9] at H
     have c9b0 : decide (x6_1 < (t203.length : Int)) = false := decide_eq_false c9
     clear c9
     (first | rw [c9b0] | (simp only [i64_w, i32_w]; rw [c9b0]) | skip)
     have H' := Aside0.mk H
     clear H
     obtain ⟨Ao11, co11, eo11⟩ := Kd.R_slice HO_5.out
     subst eo11
     go_wp2
     go_meet
     case rel => exact ⟨_, (false), (by first | rfl | (simp; done) | (simp [*]; done)), H', ⟨by have := HK1.out; first | omega | exact Nat.le_refl _⟩, ⟨rk HO_5.out⟩, ⟨rk HO_203000.out⟩, ⟨by (with_reducible repeat (first | apply Kd.S_alloc | apply Kd.S_drewN | apply Kd.S_drew)); exact HO_203001.out⟩, ⟨bk BK201.out⟩, ⟨bk BK202.out⟩, ⟨bset⟩⟩
   case rest =>
    clear HC8
    try clear c1
    try clear p2
    try clear c4
    try clear c5
    try clear c9
    try clear c9b0
    try clear hcz6_0
    try clear hcz6_1
    try clear hfz6_0
    try clear hfz6_1
    try clear p2
    obtain ⟨kq, x20_7, rfl, HA, HJ7, HO_5, HO_203000, HO_203001, BK201, BK202, HB⟩ := hcut
    cases kq with
    | zero => exact absurd HA.out (by simp [spec_ParseTableau.j1])
    | succ kj7 =>
     have H := HA.out
     clear HA
     simp only [spec_ParseTableau.j1] at H
     by_cases c12 : x20_7 = true
     ·subst c12
      have H1 : (spec_ParseTableau.l1 kj7 a0 t203 x6_1 0 x203000_1 x203001_1) = some (r1, r2, r3) := by rw [if_pos rfl] at H; exact H
      clear H
      have H := H1
      clear H1
      have HC13 := Aside0.mk H
      clear H
      go_upto_block 2 with (fail)
      go_cut [7] (fun v7 wc => ∃ (kq : Nat) (x7_12 : Int), v7 = .int .i64 x7_12 ∧ Aside0 (spec_ParseTableau.j3 kq a0 t203 x6_1 x7_12 x203000_1 x203001_1 = some (r1, r2, r3)) ∧ Aside0 (kq ≤ kj7) ∧ Aside0 (Kd.R Kd.string 9 wc w.heap.size (fun _ => True) v204 t203) ∧ Aside0 (Kd.R (Kd.int .i64) 3 wc w.heap.size (fun _ => True) u203000 x203000_1) ∧ Aside0 (Kd.S (Kd.slice 3 (Kd.int .i64)) 29 wc w.heap.size (fun k_ => some k_ ≠ (u203000 : Value).ownBlock) u203001 x203001_1) ∧ Aside0 (wc.heap[gb201]? = some (.cells #[(.slice none 0 0), (.slice none 0 0)] 50 (0, 0))) ∧ Aside0 (wc.heap[gb202]? = some (.cells #[u203000, u203001] 50 (0, 0))) ∧ Aside0 (Below w.heap.size w wc))
      case first =>
       have H := HC13.out
       clear HC13
       have H' := Aside0.mk H
       clear H
       go_wp2
       go_loopg [7] kj7 (fun kq v7 w' => ∃ (x7_3 : Int), v7 = .int .i64 x7_3 ∧ Aside0 (spec_ParseTableau.l1 kq a0 t203 x6_1 x7_3 x203000_1 x203001_1 = some (r1, r2, r3)) ∧ Aside0 (kq ≤ kj7) ∧ Aside0 (Kd.R Kd.string 9 w' w.heap.size (fun _ => True) v204 t203) ∧ Aside0 (Kd.R (Kd.int .i64) 3 w' w.heap.size (fun _ => True) u203000 x203000_1) ∧ Aside0 (Kd.S (Kd.slice 3 (Kd.int .i64)) 29 w' w.heap.size (fun k_ => some k_ ≠ (u203000 : Value).ownBlock) u203001 x203001_1) ∧ Aside0 (w'.heap[gb201]? = some (.cells #[(.slice none 0 0), (.slice none 0 0)] 50 (0, 0))) ∧ Aside0 (w'.heap[gb202]? = some (.cells #[u203000, u203001] 50 (0, 0))) ∧ Aside0 (Below w.heap.size w w'))
       case atStart => exact ⟨(0), (by first | rfl | (simp; done) | (simp [*]; done)), H', ⟨Nat.le_refl _⟩, ⟨rk HO_5.out⟩, ⟨rk HO_203000.out⟩, ⟨by (with_reducible repeat (first | apply Kd.S_alloc | apply Kd.S_drewN | apply Kd.S_drew)); exact HO_203001.out⟩, ⟨bk BK201.out⟩, ⟨bk BK202.out⟩, ⟨bset⟩⟩
       case round =>
        clear H'
        try clear c1
        try clear p2
        try clear c4
        try clear c5
        try clear c9
        try clear c9b0
        try clear c12
        try clear hcz6_0
        try clear hcz6_1
        try clear hfz6_0
        try clear hfz6_1
        try clear p2
        obtain ⟨x7_3, rfl, HA, HK3, HO_5, HO_203000, HO_203001, BK201, BK202, HB⟩ := hrel
        cases gk with
        | zero => exact absurd HA.out (by simp [spec_ParseTableau.l1])
        | succ k3 =>
         have H := HA.out
         clear HA
         simp only [spec_ParseTableau.l1] at H
         by_cases c14 : 0 ≤ x6_1
         ·rw [if_pos c14] at H
          have c14b0 : decide (0 ≤ x6_1) = true := decide_eq_true c14
          clear c14
          (first | rw [c14b0] | (simp only [i64_w, i32_w]; rw [c14b0]) | skip)
          by_cases c15 : x6_1 < (t203.length : Int)
          ·rw [if_pos c15] at H
           have c15b0 : decide (x6_1 < (t203.length : Int)) = true := decide_eq_true c15
           clear c15
           by_cases c16 : x7_3 < ((rdOf ByteArray.empty t203 x6_1).size : Int)
           ·rw [if_pos c16] at H
            have c16b0 : decide (x7_3 < ((rdOf ByteArray.empty t203 x6_1).size : Int)) = true := decide_eq_true c16
            clear c16
            by_cases c17 : 0 ≤ x7_3
            ·rw [if_pos c17] at H
             have c17b0 : decide (0 ≤ x7_3) = true := decide_eq_true c17
             clear c17
             by_cases c19 : (bt (rdOf ByteArray.empty t203 x6_1) x7_3) = 46
             ·rw [if_pos c19] at H
              have c19b0 : ((bt (rdOf ByteArray.empty t203 x6_1) x7_3) == 46) = true := beq_iff_eq.mpr c19
              have c19b1 : ((bt (rdOf ByteArray.empty t203 x6_1) x7_3) != 46) = false := bne_eq_false_iff_eq.mpr c19
              clear c19
              have H' := Aside0.mk H
              clear H
              obtain ⟨Ao20, co20, eo20⟩ := Kd.R_slice HO_5.out
              subst eo20
              have p206 : 0 ≤ (x6_1 : Int) := of_decide_eq_true asm
              have q206 : x6_1 < (t203.length : Int) := of_decide_eq_true asm
              obtain ⟨ad206, e206, hx206_0⟩ := Kd.at_string (Kd.R_reads' HO_5.out).2.2 x6_1 p206 q206
              cases e206
              replace p206 := eq_true p206
              replace q206 := eq_true q206
              have p207 : 0 ≤ (x6_1 : Int) := of_decide_eq_true asm
              have q207 : x6_1 < (t203.length : Int) := of_decide_eq_true asm
              obtain ⟨ad207, e207, hx207_0⟩ := Kd.at_string (Kd.R_reads' HO_5.out).2.2 x6_1 p207 q207
              obtain rfl : ad206 = ad207 := (by injection e207)
              replace p207 := eq_true p207
              replace q207 := eq_true q207
              have p18 : 0 ≤ (x7_3 : Int) := of_decide_eq_true asm
              have q18 : x7_3 < ((rdOf ByteArray.empty t203 x6_1).size : Int) := of_decide_eq_true asm
              have hx18 := bt_at (rdOf ByteArray.empty t203 x6_1) x7_3
              replace p18 := eq_true p18
              replace q18 := eq_true q18
              go_wp2
              go_roundg k3
              case measure => have := HK1.out; have := HJ7.out; have := HK3.out; omega
              case rel => exact ⟨(wrap64 (x7_3 + 1)), (by first | rfl | (simp; done) | (simp [*]; done)), H', ⟨by have := HK1.out; have := HJ7.out; have := HK3.out; omega⟩, ⟨rk HO_5.out⟩, ⟨rk HO_203000.out⟩, ⟨by (with_reducible repeat (first | apply Kd.S_alloc | apply Kd.S_drewN | apply Kd.S_drew)); exact HO_203001.out⟩, ⟨bk BK201.out⟩, ⟨bk BK202.out⟩, ⟨bset⟩⟩
             ·rw [if_neg c19] at H
              have c19b0 : ((bt (rdOf ByteArray.empty t203 x6_1) x7_3) == 46) = false := beq_eq_false_iff_ne.mpr c19
              have c19b1 : ((bt (rdOf ByteArray.empty t203 x6_1) x7_3) != 46) = true := bne_iff_ne.mpr c19
              have H' := Aside0.mk H
              clear H
              obtain ⟨Ao21, co21, eo21⟩ := Kd.R_slice HO_5.out
              subst eo21
              have p206 : 0 ≤ (x6_1 : Int) := of_decide_eq_true asm
              have q206 : x6_1 < (t203.length : Int) := of_decide_eq_true asm
              obtain ⟨ad206, e206, hx206_0⟩ := Kd.at_string (Kd.R_reads' HO_5.out).2.2 x6_1 p206 q206
              cases e206
              replace p206 := eq_true p206
              replace q206 := eq_true q206
              have p207 : 0 ≤ (x6_1 : Int) := of_decide_eq_true asm
              have q207 : x6_1 < (t203.length : Int) := of_decide_eq_true asm
              obtain ⟨ad207, e207, hx207_0⟩ := Kd.at_string (Kd.R_reads' HO_5.out).2.2 x6_1 p207 q207
              obtain rfl : ad206 = ad207 := (by injection e207)
              replace p207 := eq_true p207
              replace q207 := eq_true q207
              have p18 : 0 ≤ (x7_3 : Int) := of_decide_eq_true asm
              have q18 : x7_3 < ((rdOf ByteArray.empty t203 x6_1).size : Int) := of_decide_eq_true asm
              have hx18 := bt_at (rdOf ByteArray.empty t203 x6_1) x7_3
              replace p18 := eq_true p18
              replace q18 := eq_true q18
              go_wp2
              go_meet
              case rel => exact ⟨_, (x7_3), (by first | rfl | (simp; done) | (simp [*]; done)), H', ⟨by have := HK1.out; have := HJ7.out; have := HK3.out; first | omega | exact Nat.le_refl _⟩, ⟨rk HO_5.out⟩, ⟨rk HO_203000.out⟩, ⟨by (with_reducible repeat (first | apply Kd.S_alloc | apply Kd.S_drewN | apply Kd.S_drew)); exact HO_203001.out⟩, ⟨bk BK201.out⟩, ⟨bk BK202.out⟩, ⟨bset⟩⟩
            ·rw [if_neg c17] at H
             exact absurd H (by simp)
           ·rw [if_neg c16] at H
            have c16b0 : decide (x7_3 < ((rdOf ByteArray.empty t203 x6_1).size : Int)) = false := decide_eq_false c16
            clear c16
            have H' := Aside0.mk H
            clear H
            obtain ⟨Ao22, co22, eo22⟩ := Kd.R_slice HO_5.out
            subst eo22
            have p206 : 0 ≤ (x6_1 : Int) := of_decide_eq_true asm
            have q206 : x6_1 < (t203.length : Int) := of_decide_eq_true asm
            obtain ⟨ad206, e206, hx206_0⟩ := Kd.at_string (Kd.R_reads' HO_5.out).2.2 x6_1 p206 q206
            cases e206
            replace p206 := eq_true p206
            replace q206 := eq_true q206
            go_wp2
            go_meet
            case rel => exact ⟨_, (x7_3), (by first | rfl | (simp; done) | (simp [*]; done)), H', ⟨by have := HK1.out; have := HJ7.out; have := HK3.out; first | omega | exact Nat.le_refl _⟩, ⟨rk HO_5.out⟩, ⟨rk HO_203000.out⟩, ⟨by (with_reducible repeat (first | apply Kd.S_alloc | apply Kd.S_drewN | apply Kd.S_drew)); exact HO_203001.out⟩, ⟨bk BK201.out⟩, ⟨bk BK202.out⟩, ⟨bset⟩⟩
          ·rw [if_neg c15] at H
           exact absurd H (by simp)
         ·rw [if_neg c14] at H
          exact absurd H (by simp)
      case rest =>
       clear HC13
       try clear c1
       try clear p1
       try clear q1
       try clear hx1
       try clear p2
       try clear q2
       try clear hx2
       try clear c4
       try clear c5
       try clear p6
       try clear c9
       try clear c9b0
       try clear c12
       try clear c14
       try clear c14b0
       try clear c15
       try clear c15b0
       try clear c16
       try clear c16b0
       try clear c17
       try clear c17b0
       try clear p18
       try clear q18
       try clear hx18
       try clear c19
       try clear c19b0
       try clear c19b1
       try clear p20
       try clear q20
       try clear hx20
       try clear hcz6_0
       try clear hcz6_1
       try clear hfz6_0
       try clear hfz6_1
       try clear hx206_0
       try clear hx207_0
       try clear p18
       try clear p2
       try clear p206
       try clear p207
       try clear q18
       try clear q206
       try clear q207
       obtain ⟨kq, x7_12, rfl, HA, HJ12, HO_5, HO_203000, HO_203001, BK201, BK202, HB⟩ := hcut
       cases kq with
       | zero => exact absurd HA.out (by simp [spec_ParseTableau.j3])
       | succ kj12 =>
        have H := HA.out
        clear HA
        simp only [spec_ParseTableau.j3] at H
        have HC23 := Aside0.mk H
        clear H
        go_upto_if 42 with (fail)
        go_cut [] (fun wc => ∃ (kq : Nat) (x203000_22 : List Int) (u203000 : Value), Aside0 (spec_ParseTableau.j4 kq a0 t203 x6_1 x7_12 x203000_22 x203001_1 = some (r1, r2, r3)) ∧ Aside0 (kq ≤ kj12) ∧ Aside0 (Kd.R Kd.string 9 wc w.heap.size (fun _ => True) v204 t203) ∧ Aside0 (Kd.R (Kd.int .i64) 3 wc w.heap.size (fun _ => True) u203000 x203000_22) ∧ Aside0 (Kd.S (Kd.slice 3 (Kd.int .i64)) 29 wc w.heap.size (fun k_ => some k_ ≠ (u203000 : Value).ownBlock) u203001 x203001_1) ∧ Aside0 (wc.heap[gb201]? = some (.cells #[(.slice none 0 0), (.slice none 0 0)] 50 (0, 0))) ∧ Aside0 (wc.heap[gb202]? = some (.cells #[u203000, u203001] 50 (0, 0))) ∧ Aside0 (Below w.heap.size w wc))
        case first =>
         have H := HC23.out
         clear HC23
         by_cases c24 : x7_12 > 0
         ·rw [if_pos c24] at H
          have c24b0 : decide (0 < x7_12) = true := decide_eq_true c24
          clear c24
          (first | rw [c24b0] | (simp only [i64_w, i32_w]; rw [c24b0]) | skip)
          by_cases c25 : x203000_1.length < 17592186044416
          ·rw [if_pos c25] at H
           have LMc25 := Aside0.mk c25
           clear c25
           obtain ⟨y208, hy208⟩ : ∃ y_ : List Int, y_ = (x203000_1 ++ [x7_12]) := ⟨_, rfl⟩
           replace H : (spec_ParseTableau.j4 kj12 a0 t203 x6_1 x7_12 y208 x203001_1) = some (r1, r2, r3) := by first | (rw [hy208]; with_reducible exact H) | (have H2_ := (Option.bind_some _ _).symm.trans H; rw [hy208]; with_reducible exact H2_) | (have H2_ := (Option.bind_some _ _).symm.trans H; with_reducible exact H2_) | with_reducible exact H | (rw [hy208]; exact H) | exact H
           have Ny208 := Aside0.mk hy208
           clear hy208
           have H' := Aside0.mk H
           clear H
           have hnb26 := NB202_201.out
           have hnc26 := NB201_202.out
           have hcz27_0 : wc.cell? ⟨gb202, 0, none⟩ = some (u203000) := (blk_cell BK202.out 0).trans rfl
           have hcz27_1 : wc.cell? ⟨gb202, 1, none⟩ = some (u203001) := (blk_cell BK202.out 1).trans rfl
           have hfz27_0 := blk_frozen BK202.out 0
           have hfz27_1 := blk_frozen BK202.out 1
           go_wp2_with (first | ((with_reducible refine gate_builtin (b := .append) (xs := #[.tmp 44, .tmp 46]) rfl ?_); at_builtin; refine Kd.R_append (Kd.int .i64) (w0 := w) w.heap.size rfl (.tmp 44) (.tmp 46) 29 3 (.int .i64 0) 8 rfl Tryd.underlying29 info3 rfl (by decide) (by omega) u203000 x203000_1 x7_12 [.int .i64 x7_12] (fun _ => True) (fun _ => False) rfl rfl ?aP (fun _ hk => hk.elim) ?aF ?aO ?aB ?aS ?aL ?_; (case aP => exact rfl); (case aB => exact bset); (case aF => exact (fun _ _ => trivial)); (case aO => exact (rk HO_203000.out)); (case aS => exact (below_size bset)); (case aL => have := LMc25.out; omega); intro v209 w28 ho hb hg hat; rw [← Ny208.out] at ho; have n0_ := Aside0.mk (Kd.R_over' (rk HO_5.out) (Kd.R_typed (rk HO_203000.out)) (by decide) hg); have n1_ := Aside0.mk (Kd.S_after (ok := (fun _ => True)) (by (with_reducible repeat (first | apply Kd.S_alloc | apply Kd.S_drewN | apply Kd.S_drew)); exact Kd.S_mono HO_203001.out (fun _ hk => ⟨trivial, hk⟩)) hg hat); have n2_ := Aside0.mk (blk_grown (g := gb201) (o := .cells #[.slice none 0 0, .slice none 0 0] 50 (0, 0)) (bk BK201.out) hg (Kd.R_ne HO_203000.out BK201.out (by decide))); have n3_ := Aside0.mk (blk_grown (g := gb202) (o := .cells #[u203000, u203001] 50 (0, 0)) (bk BK202.out) hg (Kd.R_ne HO_203000.out BK202.out (by decide))); have n4_ := Aside0.mk (hb); have n5_ := Aside0.mk (ho); clear HO_5; clear HO_203001; clear BK201; clear BK202; clear HB; clear HO_203000; have HO_5 := n0_; have HO_203001 := n1_; have BK201 := n2_; have BK202 := n3_; have HB := n4_; have HO210 := n5_; clear n0_ n1_ n2_ n3_ n4_ n5_; clear ho hb hg hat; obtain ⟨Ao29, co29, eo29⟩ := Kd.R_slice HO210.out; subst eo29; have hcz30_0 : w28.cell? ⟨gb202, 0, none⟩ = some (u203000) := (blk_cell BK202.out 0).trans rfl; have hcz30_1 : w28.cell? ⟨gb202, 1, none⟩ = some (u203001) := (blk_cell BK202.out 1).trans rfl; have hfz30_0 := blk_frozen BK202.out 0; have hfz30_1 := blk_frozen BK202.out 1))
           go_meet
           case rel => exact ⟨_, (y208), (.slice Ao29 y208.length co29), H', ⟨by have := HK1.out; have := HJ7.out; have := HJ12.out; first | omega | exact Nat.le_refl _⟩, ⟨by (with_reducible repeat (first | apply Kd.R_alloc | apply Kd.R_drewN | apply Kd.R_drew)); exact Kd.R_mono (Kd.R_far (p := ⟨gb202, 0, none⟩) (Kd.R_types HO_5.out BK202.out (by decide)) (fun _ hk => hk.2) (.slice Ao29 y208.length co29)) (fun _ hk => trivial)⟩, ⟨by (with_reducible repeat (first | apply Kd.R_alloc | apply Kd.R_drewN | apply Kd.R_drew)); exact Kd.R_mono (Kd.R_far (p := ⟨gb202, 0, none⟩) (Kd.R_types HO210.out BK202.out (by decide)) (fun _ hk => hk.2) (.slice Ao29 y208.length co29)) (fun _ hk => trivial)⟩, ⟨by (with_reducible repeat (first | apply Kd.S_alloc | apply Kd.S_drewN | apply Kd.S_drew)); exact Kd.S_mono (Kd.S_far (p := ⟨gb202, 0, none⟩) (Kd.S_types HO_203001.out BK202.out (by decide)) (fun _ hk => hk.2) (.slice Ao29 y208.length co29)) (fun _ hk => hk.1.2)⟩, ⟨by (with_reducible repeat (first | refine blk_drewN ?_ _ | refine blk_drew ?_ | refine blk_alloc ?_ _)); refine blk_far ?_ NB201_202.out _; (with_reducible repeat (first | refine blk_drewN ?_ _ | refine blk_drew ?_ | refine blk_alloc ?_ _)); exact BK201.out⟩, ⟨by (with_reducible repeat (first | refine blk_drewN ?_ _ | refine blk_drew ?_ | refine blk_alloc ?_ _)); refine blk_put (cs := #[u203000, u203001]) ?_ 0 _ rfl; (with_reducible repeat (first | refine blk_drewN ?_ _ | refine blk_drew ?_ | refine blk_alloc ?_ _)); exact BK202.out⟩, ⟨bset⟩⟩
          ·rw [if_neg c25] at H
           exact absurd H (by simp)
         ·rw [if_neg c24] at H
          have c24b0 : decide (0 < x7_12) = false := decide_eq_false c24
          clear c24
          (first | rw [c24b0] | (simp only [i64_w, i32_w]; rw [c24b0]) | skip)
          have H' := Aside0.mk H
          clear H
          go_wp2
          go_meet
          case rel => exact ⟨_, (x203000_1), (u203000), H', ⟨by have := HK1.out; have := HJ7.out; have := HJ12.out; first | omega | exact Nat.le_refl _⟩, ⟨rk HO_5.out⟩, ⟨rk HO_203000.out⟩, ⟨by (with_reducible repeat (first | apply Kd.S_alloc | apply Kd.S_drewN | apply Kd.S_drew)); exact HO_203001.out⟩, ⟨bk BK201.out⟩, ⟨bk BK202.out⟩, ⟨bset⟩⟩
        case rest =>
         clear HC23
         try clear c1
         try clear p1
         try clear q1
         try clear hx1
         try clear c2
         try clear p2
         try clear q2
         try clear hx2
         try clear c4
         try clear c5
         try clear p6
         try clear c9
         try clear c9b0
         try clear c12
         try clear c14
         try clear c14b0
         try clear c15
         try clear c15b0
         try clear c16
         try clear c16b0
         try clear c17
         try clear c17b0
         try clear p18
         try clear q18
         try clear hx18
         try clear c19
         try clear c19b0
         try clear c19b1
         try clear p20
         try clear q20
         try clear hx20
         try clear c24
         try clear c24b0
         try clear c25
         try clear c26
         try clear hcz27_0
         try clear hcz27_1
         try clear hcz30_0
         try clear hcz30_1
         try clear hcz6_0
         try clear hcz6_1
         try clear hfz27_0
         try clear hfz27_1
         try clear hfz30_0
         try clear hfz30_1
         try clear hfz6_0
         try clear hfz6_1
         try clear hx206_0
         try clear hx207_0
         try clear p1
         try clear p18
         try clear p2
         try clear p20
         try clear p206
         try clear p207
         try clear p6
         try clear q1
         try clear q18
         try clear q2
         try clear q20
         try clear q206
         try clear q207
         obtain ⟨kq, x203000_22, u203000, HA, HJ22, HO_5, HO_203000, HO_203001, BK201, BK202, HB⟩ := hcut
         cases kq with
         | zero => exact absurd HA.out (by simp [spec_ParseTableau.j4])
         | succ kj22 =>
          have H := HA.out
          clear HA
          simp only [spec_ParseTableau.j4] at H
          obtain ⟨y211, hy211⟩ : ∃ y_ : List Int, y_ = (([] : List Int)) := ⟨_, rfl⟩
          replace H : (spec_ParseTableau.l2 kj22 a0 t203 x6_1 y211 x7_12 x203000_22 x203001_1) = some (r1, r2, r3) := by first | (rw [hy211]; with_reducible exact H) | (have H2_ := (Option.bind_some _ _).symm.trans H; rw [hy211]; with_reducible exact H2_) | (have H2_ := (Option.bind_some _ _).symm.trans H; with_reducible exact H2_) | with_reducible exact H | (rw [hy211]; exact H) | exact H
          have Ny211 := Aside0.mk hy211
          clear hy211
          have H' := Aside0.mk H
          clear H
          go_wp2_with (first | ((with_reducible refine gate_dst (N := 49) rfl ?_); refine Kd.R_lit (Kd.int .i64) _ 3 ?hg (N := 49) ?hd (xs := ([] : List Int)) (inner := []) (ok := fun _ => True) (okp := fun _ => True) ?hr ?hp (fun _ hk => hk) trivial (Below.refl _ _) (Nat.le_refl _) (by simp) ?_; (case hd => rfl); (case hg => rfl); (case hr => first | (go_simp; done) | (go_simp; rfl)); (case hp => exact (Reps.none _ _)); intro v212 w31 ho32 hb hg_ hnew_; clear hg_ hnew_; (first | rw [← Ny211.out] at ho32 | (simp only [Int.reduceToNat] at ho32; rw [← Ny211.out] at ho32)); have n0_ := Aside0.mk (Kd.R_below (rk HO_5.out) hb); have n1_ := Aside0.mk (Kd.R_elder' (rk HO_203000.out) (Kd.R_base ho32) hb); have n2_ := Aside0.mk (Kd.S_elder' (by (with_reducible repeat (first | apply Kd.S_alloc | apply Kd.S_drewN | apply Kd.S_drew)); exact HO_203001.out) (Kd.R_base ho32) hb); have n3_ := Aside0.mk (Kd.R_lower (Kd.R_new' ho32 (Kd.R_lt (rk HO_203000.out))) (below_size bset)); have n4_ := Aside0.mk (blk_below (bk BK201.out) hb); have n5_ := Aside0.mk (blk_below (bk BK202.out) hb); have n6_ := Aside0.mk (below_step bset hb); clear HO_5; clear HO_203000; clear HO_203001; clear BK201; clear BK202; clear HB; have HO_5 := n0_; have HO_203000 := n1_; have HO_203001 := n2_; have HO213 := n3_; have BK201 := n4_; have BK202 := n5_; have HB := n6_; clear n0_ n1_ n2_ n3_ n4_ n5_ n6_; clear hb ho32))
          go_loopg [8, 9] kj22 (fun kq v8 v9 w' => ∃ (x8_5 : List Int) (x9_5 : Int), v9 = .int .i64 x9_5 ∧ Aside0 (spec_ParseTableau.l2 kq a0 t203 x6_1 x8_5 x9_5 x203000_22 x203001_1 = some (r1, r2, r3)) ∧ Aside0 (kq ≤ kj22) ∧ Aside0 (Kd.R Kd.string 9 w' w.heap.size (fun _ => True) v204 t203) ∧ Aside0 (Kd.R (Kd.int .i64) 3 w' w.heap.size (fun k_ => some k_ ≠ (u203000 : Value).ownBlock) v8 x8_5) ∧ Aside0 (Kd.R (Kd.int .i64) 3 w' w.heap.size (fun k_ => some k_ ≠ (v8 : Value).ownBlock) u203000 x203000_22) ∧ Aside0 (Kd.S (Kd.slice 3 (Kd.int .i64)) 29 w' w.heap.size (fun k_ => some k_ ≠ (v8 : Value).ownBlock ∧ some k_ ≠ (u203000 : Value).ownBlock) u203001 x203001_1) ∧ Aside0 (w'.heap[gb201]? = some (.cells #[(.slice none 0 0), (.slice none 0 0)] 50 (0, 0))) ∧ Aside0 (w'.heap[gb202]? = some (.cells #[u203000, u203001] 50 (0, 0))) ∧ Aside0 (Below w.heap.size w w'))
          case atStart => exact ⟨(y211), (x7_12), (by first | rfl | (simp; done) | (simp [*]; done)), H', ⟨Nat.le_refl _⟩, ⟨rk HO_5.out⟩, ⟨by (with_reducible repeat (first | apply Kd.R_alloc | apply Kd.R_drewN | apply Kd.R_drew)); exact Kd.R_mono HO213.out (fun _ hk => hk.2)⟩, ⟨by (with_reducible repeat (first | apply Kd.R_alloc | apply Kd.R_drewN | apply Kd.R_drew)); exact Kd.R_mono HO_203000.out (fun _ hk => hk.2)⟩, ⟨by (with_reducible repeat (first | apply Kd.S_alloc | apply Kd.S_drewN | apply Kd.S_drew)); exact Kd.S_mono HO_203001.out (fun _ hk => ⟨hk.2, hk.1⟩)⟩, ⟨bk BK201.out⟩, ⟨bk BK202.out⟩, ⟨bset⟩⟩
          case round =>
           clear H'
           try clear c1
           try clear p1
           try clear q1
           try clear hx1
           try clear c2
           try clear p2
           try clear q2
           try clear hx2
           try clear c4
           try clear c5
           try clear p6
           try clear c9
           try clear c9b0
           try clear c12
           try clear c14
           try clear c14b0
           try clear c15
           try clear c15b0
           try clear c16
           try clear c16b0
           try clear c17
           try clear c17b0
           try clear p18
           try clear q18
           try clear hx18
           try clear c19
           try clear c19b0
           try clear c19b1
           try clear p20
           try clear q20
           try clear hx20
           try clear c24
           try clear c24b0
           try clear c25
           try clear c26
           try clear hcz27_0
           try clear hcz27_1
           try clear hcz30_0
           try clear hcz30_1
           try clear hcz6_0
           try clear hcz6_1
           try clear hfz27_0
           try clear hfz27_1
           try clear hfz30_0
           try clear hfz30_1
           try clear hfz6_0
           try clear hfz6_1
           try clear hx206_0
           try clear hx207_0
           try clear p1
           try clear p18
           try clear p2
           try clear p20
           try clear p206
           try clear p207
           try clear p6
           try clear q1
           try clear q18
           try clear q2
           try clear q20
           try clear q206
           try clear q207
           obtain ⟨x8_5, x9_5, rfl, HA, HK5, HO_5, HO_8, HO_203000, HO_203001, BK201, BK202, HB⟩ := hrel
           cases gk with
           | zero => exact absurd HA.out (by simp [spec_ParseTableau.l2])
           | succ k5 =>
            have H := HA.out
            clear HA
            simp only [spec_ParseTableau.l2] at H
            by_cases c33 : 0 ≤ x6_1
            ·rw [if_pos c33] at H
             have c33b0 : decide (0 ≤ x6_1) = true := decide_eq_true c33
             clear c33
             by_cases c34 : x6_1 < (t203.length : Int)
             ·rw [if_pos c34] at H
              have c34b0 : decide (x6_1 < (t203.length : Int)) = true := decide_eq_true c34
              clear c34
              by_cases c35 : x9_5 < ((rdOf ByteArray.empty t203 x6_1).size : Int)
              ·rw [if_pos c35] at H
               have c35b0 : decide (x9_5 < ((rdOf ByteArray.empty t203 x6_1).size : Int)) = true := decide_eq_true c35
               clear c35
               by_cases c36 : 0 ≤ x9_5
               ·rw [if_pos c36] at H
                have c36b0 : decide (0 ≤ x9_5) = true := decide_eq_true c36
                clear c36
                by_cases c38 : x8_5.length < 17592186044416
                ·rw [if_pos c38] at H
                 have LMc38 := Aside0.mk c38
                 clear c38
                 obtain ⟨y216, hy216⟩ : ∃ y_ : List Int, y_ = (x8_5 ++ [wrap64 ((wrap64 (bt (rdOf ByteArray.empty t203 x6_1) x9_5)) - 48)]) := ⟨_, rfl⟩
                 replace H : (spec_ParseTableau.l2 k5 a0 t203 x6_1 y216 (wrap64 (x9_5 + 1)) x203000_22 x203001_1) = some (r1, r2, r3) := by first | (rw [hy216]; with_reducible exact H) | (have H2_ := (Option.bind_some _ _).symm.trans H; rw [hy216]; with_reducible exact H2_) | (have H2_ := (Option.bind_some _ _).symm.trans H; with_reducible exact H2_) | with_reducible exact H | (rw [hy216]; exact H) | exact H
                 have Ny216 := Aside0.mk hy216
                 clear hy216
                 have H' := Aside0.mk H
                 clear H
                 obtain ⟨Ao39, co39, eo39⟩ := Kd.R_slice HO_5.out
                 subst eo39
                 have p214 : 0 ≤ (x6_1 : Int) := of_decide_eq_true asm
                 have q214 : x6_1 < (t203.length : Int) := of_decide_eq_true asm
                 obtain ⟨ad214, e214, hx214_0⟩ := Kd.at_string (Kd.R_reads' HO_5.out).2.2 x6_1 p214 q214
                 cases e214
                 replace p214 := eq_true p214
                 replace q214 := eq_true q214
                 have p215 : 0 ≤ (x6_1 : Int) := of_decide_eq_true asm
                 have q215 : x6_1 < (t203.length : Int) := of_decide_eq_true asm
                 obtain ⟨ad215, e215, hx215_0⟩ := Kd.at_string (Kd.R_reads' HO_5.out).2.2 x6_1 p215 q215
                 obtain rfl : ad214 = ad215 := (by injection e215)
                 replace p215 := eq_true p215
                 replace q215 := eq_true q215
                 have p37 : 0 ≤ (x9_5 : Int) := of_decide_eq_true asm
                 have q37 : x9_5 < ((rdOf ByteArray.empty t203 x6_1).size : Int) := of_decide_eq_true asm
                 have hx37 := bt_at (rdOf ByteArray.empty t203 x6_1) x9_5
                 replace p37 := eq_true p37
                 replace q37 := eq_true q37
                 go_wp2_with (first | ((with_reducible refine gate_builtin (b := .append) (xs := #[.tmp 60, .tmp 69]) rfl ?_); at_builtin; refine Kd.R_append (Kd.int .i64) (w0 := w) w.heap.size rfl (.tmp 60) (.tmp 69) 29 3 (.int .i64 0) 8 rfl Tryd.underlying29 info3 rfl (by decide) (by omega) u8 x8_5 (wrap64 ((wrap64 (bt (rdOf ByteArray.empty t203 x6_1) x9_5)) - 48)) [.int .i64 (wrap64 ((wrap64 (bt (rdOf ByteArray.empty t203 x6_1) x9_5)) - 48))] (fun k_ => some k_ ≠ (u203000 : Value).ownBlock) (fun _ => False) rfl rfl ?aP (fun _ hk => hk.elim) ?aF ?aO ?aB ?aS ?aL ?_; (case aP => exact rfl); (case aB => exact bset); (case aF => exact (fun k_ hk => Kd.fresh' (Kd.R_lt (rk HO_203000.out)) k_ hk)); (case aO => exact (rk HO_8.out)); (case aS => exact (below_size bset)); (case aL => have := LMc38.out; omega); intro v217 w40 ho hb hg hat; rw [← Ny216.out] at ho; have n0_ := Aside0.mk (Kd.R_over' (rk HO_5.out) (Kd.R_typed (rk HO_8.out)) (by decide) hg); have n1_ := Aside0.mk (Kd.R_after (ok := (fun _ => True)) (by (with_reducible repeat (first | apply Kd.R_alloc | apply Kd.R_drewN | apply Kd.R_drew)); exact Kd.R_mono HO_203000.out (fun _ hk => ⟨trivial, hk⟩)) hg hat); have n2_ := Aside0.mk (Kd.S_after (ok := (fun k_ => some k_ ≠ (u203000 : Value).ownBlock)) (by (with_reducible repeat (first | apply Kd.S_alloc | apply Kd.S_drewN | apply Kd.S_drew)); exact Kd.S_mono HO_203001.out (fun _ hk => ⟨hk.2, hk.1⟩)) hg hat); have n3_ := Aside0.mk (blk_grown (g := gb201) (o := .cells #[.slice none 0 0, .slice none 0 0] 50 (0, 0)) (bk BK201.out) hg (Kd.R_ne HO_8.out BK201.out (by decide))); have n4_ := Aside0.mk (blk_grown (g := gb202) (o := .cells #[u203000, u203001] 50 (0, 0)) (bk BK202.out) hg (Kd.R_ne HO_8.out BK202.out (by decide))); have n5_ := Aside0.mk (hb); have n6_ := Aside0.mk (ho); clear HO_5; clear HO_203000; clear HO_203001; clear BK201; clear BK202; clear HB; clear HO_8; have HO_5 := n0_; have HO_203000 := n1_; have HO_203001 := n2_; have BK201 := n3_; have BK202 := n4_; have HB := n5_; have HO218 := n6_; clear n0_ n1_ n2_ n3_ n4_ n5_ n6_; clear ho hb hg hat))
                 go_roundg k5
                 case measure => have := HK1.out; have := HJ7.out; have := HJ12.out; have := HJ22.out; have := HK5.out; omega
                 case rel => exact ⟨(y216), (wrap64 (x9_5 + 1)), (by first | rfl | (simp; done) | (simp [*]; done)), H', ⟨by have := HK1.out; have := HJ7.out; have := HJ12.out; have := HJ22.out; have := HK5.out; omega⟩, ⟨rk HO_5.out⟩, ⟨rk HO218.out⟩, ⟨by (with_reducible repeat (first | apply Kd.R_alloc | apply Kd.R_drewN | apply Kd.R_drew)); exact Kd.R_mono HO_203000.out (fun _ hk => hk.2)⟩, ⟨by (with_reducible repeat (first | apply Kd.S_alloc | apply Kd.S_drewN | apply Kd.S_drew)); exact Kd.S_mono HO_203001.out (fun _ hk => ⟨hk.2, hk.1⟩)⟩, ⟨bk BK201.out⟩, ⟨bk BK202.out⟩, ⟨bset⟩⟩
                ·rw [if_neg c38] at H
                 exact absurd H (by simp)
               ·rw [if_neg c36] at H
                exact absurd H (by simp)
              ·rw [if_neg c35] at H
               have c35b0 : decide (x9_5 < ((rdOf ByteArray.empty t203 x6_1).size : Int)) = false := decide_eq_false c35
               clear c35
               by_cases c41 : x203001_1.length < 5864062014805
               ·rw [if_pos c41] at H
                have LMc41 := Aside0.mk c41
                clear c41
                obtain ⟨y219, hy219⟩ : ∃ y_ : List (List Int), y_ = (x203001_1 ++ [x8_5]) := ⟨_, rfl⟩
                replace H : (spec_ParseTableau.l0 k5 a0 t203 (wrap64 (x6_1 + 1)) x203000_22 y219) = some (r1, r2, r3) := by first | (rw [hy219]; with_reducible exact H) | (have H2_ := (Option.bind_some _ _).symm.trans H; rw [hy219]; with_reducible exact H2_) | (have H2_ := (Option.bind_some _ _).symm.trans H; with_reducible exact H2_) | with_reducible exact H | (rw [hy219]; exact H) | exact H
                have Ny219 := Aside0.mk hy219
                clear hy219
                have H' := Aside0.mk H
                clear H
                obtain ⟨Ao42, co42, eo42⟩ := Kd.R_slice HO_5.out
                subst eo42
                have p214 : 0 ≤ (x6_1 : Int) := of_decide_eq_true asm
                have q214 : x6_1 < (t203.length : Int) := of_decide_eq_true asm
                obtain ⟨ad214, e214, hx214_0⟩ := Kd.at_string (Kd.R_reads' HO_5.out).2.2 x6_1 p214 q214
                cases e214
                replace p214 := eq_true p214
                replace q214 := eq_true q214
                have hnb43 := NB202_201.out
                have hnc43 := NB201_202.out
                have hcz44_0 : wr.cell? ⟨gb202, 0, none⟩ = some (u203000) := (blk_cell BK202.out 0).trans rfl
                have hcz44_1 : wr.cell? ⟨gb202, 1, none⟩ = some (u203001) := (blk_cell BK202.out 1).trans rfl
                have hfz44_0 := blk_frozen BK202.out 0
                have hfz44_1 := blk_frozen BK202.out 1
                obtain ⟨Ao46, co46, eo46⟩ := Kd.R_slice HO_8.out
                subst eo46
                go_wp2_with (first | ((with_reducible refine gate_builtin (b := .append) (xs := #[.tmp 72, .tmp 74]) rfl ?_); at_builtin; refine Kd.S_append (Kd.slice 3 (Kd.int .i64)) (w0 := w) w.heap.size rfl (.tmp 72) (.tmp 74) 45 29 (.slice none 0 0) 24 rfl Tryd.underlying45 info29 rfl (by decide) (by omega) u203001 x203001_1 x8_5 [.slice Ao46 x8_5.length co46] (fun k_ => some k_ ≠ (u203000 : Value).ownBlock) (fun k_ => some k_ = (.slice Ao46 x8_5.length co46 : Value).ownBlock) rfl rfl ?aP (fun k_ hk_ => ((Kd.R_mono (ok' := fun k_ => ((fun k_ => some k_ ≠ (u203000 : Value).ownBlock)) k_ ∧ some k_ ≠ (u203001 : Value).ownBlock) (Kd.R_apart' (HO_8.out) (Kd.S_typed HO_203001.out) (by decide)) (fun k_ hk => ⟨hk.1, hk.2⟩))).1 k_ hk_.symm) ?aF ?aO ?aB ?aS ?aL ?_; (case aP => exact Kd.M_row (Kd.R_mono (Kd.R_tight rfl (Kd.R_mono (ok' := fun k_ => ((fun k_ => some k_ ≠ (u203000 : Value).ownBlock)) k_ ∧ some k_ ≠ (u203001 : Value).ownBlock) (Kd.R_apart' (HO_8.out) (Kd.S_typed HO_203001.out) (by decide)) (fun k_ hk => ⟨hk.1, hk.2⟩))) (fun _ h_ => h_))); (case aB => exact bset); (case aF => exact (fun k_ hk => Kd.fresh' (Kd.R_lt (rk HO_203000.out)) k_ hk)); (case aO => exact (by (with_reducible repeat (first | apply Kd.S_alloc | apply Kd.S_drewN | apply Kd.S_drew)); exact Kd.S_mono HO_203001.out (fun k_ hk => ⟨hk.2, fun e_ => hk.1 e_⟩))); (case aS => exact (below_size bset)); (case aL => have := LMc41.out; omega); intro v220 w45 ho hb hg hat; rw [← Ny219.out] at ho; have n0_ := Aside0.mk (Kd.R_over' (rk HO_5.out) (Kd.S_typed (by (with_reducible repeat (first | apply Kd.S_alloc | apply Kd.S_drewN | apply Kd.S_drew)); exact HO_203001.out)) (by decide) hg); have n1_ := Aside0.mk (Kd.R_over' (rk HO_203000.out) (Kd.S_typed (by (with_reducible repeat (first | apply Kd.S_alloc | apply Kd.S_drewN | apply Kd.S_drew)); exact HO_203001.out)) (by decide) hg); have n2_ := Aside0.mk (blk_grown (g := gb201) (o := .cells #[.slice none 0 0, .slice none 0 0] 50 (0, 0)) (bk BK201.out) hg (Kd.S_ne HO_203001.out BK201.out (by decide))); have n3_ := Aside0.mk (blk_grown (g := gb202) (o := .cells #[u203000, u203001] 50 (0, 0)) (bk BK202.out) hg (Kd.S_ne HO_203001.out BK202.out (by decide))); have n4_ := Aside0.mk (hb); have n5_ := Aside0.mk (ho); clear HO_5; clear HO_203000; clear BK201; clear BK202; clear HB; clear HO_203001; clear HO_8; have HO_5 := n0_; have HO_203000 := n1_; have BK201 := n2_; have BK202 := n3_; have HB := n4_; have HO221 := n5_; clear n0_ n1_ n2_ n3_ n4_ n5_; clear ho hb hg hat; obtain ⟨Ao47, co47, eo47⟩ := Kd.S_slice HO221.out; subst eo47; have hcz48_0 : w45.cell? ⟨gb202, 0, none⟩ = some (u203000) := (blk_cell BK202.out 0).trans rfl; have hcz48_1 : w45.cell? ⟨gb202, 1, none⟩ = some (u203001) := (blk_cell BK202.out 1).trans rfl; have hfz48_0 := blk_frozen BK202.out 0; have hfz48_1 := blk_frozen BK202.out 1))
                go_roundg k5
                case measure => have := HK1.out; have := HJ7.out; have := HJ12.out; have := HJ22.out; have := HK5.out; omega
                case rel => exact ⟨(wrap64 (x6_1 + 1)), (x203000_22), (y219), (u203000), (.slice Ao47 y219.length co47), (by first | rfl | (simp; done) | (simp [*]; done)), H', ⟨by have := HK1.out; have := HJ7.out; have := HJ12.out; have := HJ22.out; have := HK5.out; omega⟩, ⟨by (with_reducible repeat (first | apply Kd.R_alloc | apply Kd.R_drewN | apply Kd.R_drew)); exact Kd.R_mono (Kd.R_far (p := ⟨gb202, 1, none⟩) (Kd.R_types HO_5.out BK202.out (by decide)) (fun _ hk => hk.2) (.slice Ao47 y219.length co47)) (fun _ hk => trivial)⟩, ⟨by (with_reducible repeat (first | apply Kd.R_alloc | apply Kd.R_drewN | apply Kd.R_drew)); exact Kd.R_mono (Kd.R_far (p := ⟨gb202, 1, none⟩) (Kd.R_types HO_203000.out BK202.out (by decide)) (fun _ hk => hk.2) (.slice Ao47 y219.length co47)) (fun _ hk => trivial)⟩, ⟨by (with_reducible repeat (first | apply Kd.S_alloc | apply Kd.S_drewN | apply Kd.S_drew)); exact Kd.S_mono (Kd.S_far (p := ⟨gb202, 1, none⟩) (Kd.S_types HO221.out BK202.out (by decide)) (fun _ hk => hk.2) (.slice Ao47 y219.length co47)) (fun _ hk => hk.1)⟩, ⟨by (with_reducible repeat (first | refine blk_drewN ?_ _ | refine blk_drew ?_ | refine blk_alloc ?_ _)); refine blk_far ?_ NB201_202.out _; (with_reducible repeat (first | refine blk_drewN ?_ _ | refine blk_drew ?_ | refine blk_alloc ?_ _)); exact BK201.out⟩, ⟨by (with_reducible repeat (first | refine blk_drewN ?_ _ | refine blk_drew ?_ | refine blk_alloc ?_ _)); refine blk_put (cs := #[u203000, u203001]) ?_ 1 _ rfl; (with_reducible repeat (first | refine blk_drewN ?_ _ | refine blk_drew ?_ | refine blk_alloc ?_ _)); exact BK202.out⟩, ⟨bset⟩⟩
               ·rw [if_neg c41] at H
                exact absurd H (by simp)
             ·rw [if_neg c34] at H
              exact absurd H (by simp)
            ·rw [if_neg c33] at H
             exact absurd H (by simp)
     ·replace c12 := Bool.eq_false_iff.mpr c12
      subst c12
      have H1 : ((spec_IsTableau.f kj7 x203000_1 x203001_1).bind fun t222 => (if t222 = true then ((spec_TableauText.f kj7 x203000_1 x203001_1).bind fun t223 => (if t223.toList = a0.toList then (some (x203000_1, x203001_1, true)) else (some (([] : List Int), ([] : List (List Int)), false)))) else (some (([] : List Int), ([] : List (List Int)), false)))) = some (r1, r2, r3) := by rw [if_neg (show ¬ (false = true) by decide)] at H; exact H
      clear H
      have H := H1
      clear H1
      replace H := Option.bind_eq_some_iff.mp H
      obtain ⟨t222, A490, H⟩ := H
      replace H : (if t222 = true then ((spec_TableauText.f kj7 x203000_1 x203001_1).bind fun t223 => (if t223.toList = a0.toList then (some (x203000_1, x203001_1, true)) else (some (([] : List Int), ([] : List (List Int)), false)))) else (some (([] : List Int), ([] : List (List Int)), false))) = some (r1, r2, r3) := H
      have A49 := Aside0.mk A490
      clear A490
      by_cases c50 : t222 = true
      ·subst c50
       have H1 : ((spec_TableauText.f kj7 x203000_1 x203001_1).bind fun t223 => (if t223.toList = a0.toList then (some (x203000_1, x203001_1, true)) else (some (([] : List Int), ([] : List (List Int)), false)))) = some (r1, r2, r3) := by rw [if_pos rfl] at H; exact H
       clear H
       have H := H1
       clear H1
       replace H := Option.bind_eq_some_iff.mp H
       obtain ⟨t223, A510, H⟩ := H
       replace H : (if t223.toList = a0.toList then (some (x203000_1, x203001_1, true)) else (some (([] : List Int), ([] : List (List Int)), false))) = some (r1, r2, r3) := H
       have A51 := Aside0.mk A510
       clear A510
       by_cases c52 : t223.toList = a0.toList
       ·rw [if_pos c52] at H
        have c52b0 : (t223.toList == a0.toList) = true := beq_iff_eq.mpr c52
        have c52b1 : (t223.toList != a0.toList) = false := bne_eq_false_iff_eq.mpr c52
        clear c52
        simp only [Option.some.injEq, Prod.mk.injEq] at H
        obtain ⟨rfl, rfl, rfl⟩ := H
        have hnb53 := NB202_201.out
        have hnc53 := NB201_202.out
        have hcz54_0 : wc.cell? ⟨gb202, 0, none⟩ = some (u203000) := (blk_cell BK202.out 0).trans rfl
        have hcz54_1 : wc.cell? ⟨gb202, 1, none⟩ = some (u203001) := (blk_cell BK202.out 1).trans rfl
        have hfz54_0 := blk_frozen BK202.out 0
        have hfz54_1 := blk_frozen BK202.out 1
        obtain ⟨Ao55, co55, eo55⟩ := Kd.R_slice HO_203000.out
        subst eo55
        obtain ⟨Ao56, co56, eo56⟩ := Kd.S_slice HO_203001.out
        subst eo56
        go_wp2_with (first | ((with_reducible refine gate_callee (f := 63) rfl ?_); refine goesL_ (some 78) rfl rfl Tryd.func63 (by kernel_rfl) rfl #[.agg #[.slice Ao55 x203000_1.length co55, .slice Ao56 x203001_1.length co56]] rfl lm ?_; (with_reducible refine (spec_IsTableau.calls kj7 _ _ x203000_1 _ _ x203001_1 true _ ?side1 ?side2 ?side3 ?side4 A49.out).mono ?_); (case side1 => repeat (first | exact (Kd.R_reads' HO_203000.out).2.2 | (with_reducible refine Kd.C_alloc ?_ _) | (with_reducible refine Kd.C_drewN ?_ _) | (with_reducible refine Kd.C_drew ?_))); (case side2 => exact (Kd.R_reads' HO_203000.out).2.1); (case side3 => repeat (first | exact (Kd.S_reads' HO_203001.out).2.2 | (with_reducible refine Kd.C_alloc ?_ _) | (with_reducible refine Kd.C_drewN ?_ _) | (with_reducible refine Kd.C_drew ?_))); (case side4 => exact (Kd.S_reads' HO_203001.out).2.1); rintro e w57 ⟨rfl, hb⟩; refine ⟨_, rfl, ?_⟩; have n0_ := Aside0.mk (Kd.R_below (rk HO_5.out) hb); have n1_ := Aside0.mk (Kd.R_below (rk HO_203000.out) hb); have n2_ := Aside0.mk (Kd.S_below (by (with_reducible repeat (first | apply Kd.S_alloc | apply Kd.S_drewN | apply Kd.S_drew)); exact HO_203001.out) hb); have n3_ := Aside0.mk (blk_below (bk BK201.out) hb); have n4_ := Aside0.mk (blk_below (bk BK202.out) hb); have n5_ := Aside0.mk (below_step bset hb); clear HO_5; clear HO_203000; clear HO_203001; clear BK201; clear BK202; clear HB; have HO_5 := n0_; have HO_203000 := n1_; have HO_203001 := n2_; have BK201 := n3_; have BK202 := n4_; have HB := n5_; clear n0_ n1_ n2_ n3_ n4_ n5_; (try clear hb); (try clear hb2); (try clear hk); (try clear hi); have hcz58_0 : w57.cell? ⟨gb202, 0, none⟩ = some (.slice Ao55 x203000_1.length co55) := (blk_cell BK202.out 0).trans rfl; have hcz58_1 : w57.cell? ⟨gb202, 1, none⟩ = some (.slice Ao56 x203001_1.length co56) := (blk_cell BK202.out 1).trans rfl; have hfz58_0 := blk_frozen BK202.out 0; have hfz58_1 := blk_frozen BK202.out 1) | (go_at_call 34; (with_reducible refine (spec_TableauText.calls kj7 _ _ x203000_1 _ _ x203001_1 t223 _ ?side1 ?side2 ?side3 ?side4 A51.out).mono ?_); (case side1 => repeat (first | exact (Kd.R_reads' HO_203000.out).2.2 | (with_reducible refine Kd.C_alloc ?_ _) | (with_reducible refine Kd.C_drewN ?_ _) | (with_reducible refine Kd.C_drew ?_))); (case side2 => exact (Kd.R_reads' HO_203000.out).2.1); (case side3 => repeat (first | exact (Kd.S_reads' HO_203001.out).2.2 | (with_reducible refine Kd.C_alloc ?_ _) | (with_reducible refine Kd.C_drewN ?_ _) | (with_reducible refine Kd.C_drew ?_))); (case side4 => exact (Kd.S_reads' HO_203001.out).2.1); rintro e w59 ⟨rfl, hb⟩; have n0_ := Aside0.mk (Kd.R_below (rk HO_5.out) hb); have n1_ := Aside0.mk (Kd.R_below (rk HO_203000.out) hb); have n2_ := Aside0.mk (Kd.S_below (by (with_reducible repeat (first | apply Kd.S_alloc | apply Kd.S_drewN | apply Kd.S_drew)); exact HO_203001.out) hb); have n3_ := Aside0.mk (blk_below (bk BK201.out) hb); have n4_ := Aside0.mk (blk_below (bk BK202.out) hb); have n5_ := Aside0.mk (below_step bset hb); clear HO_5; clear HO_203000; clear HO_203001; clear BK201; clear BK202; clear HB; have HO_5 := n0_; have HO_203000 := n1_; have HO_203001 := n2_; have BK201 := n3_; have BK202 := n4_; have HB := n5_; clear n0_ n1_ n2_ n3_ n4_ n5_; (try clear hb); (try clear hb2); (try clear hk); (try clear hi); have hcz60_0 : w59.cell? ⟨gb202, 0, none⟩ = some (.slice Ao55 x203000_1.length co55) := (blk_cell BK202.out 0).trans rfl; have hcz60_1 : w59.cell? ⟨gb202, 1, none⟩ = some (.slice Ao56 x203001_1.length co56) := (blk_cell BK202.out 1).trans rfl; have hfz60_0 := blk_frozen BK202.out 0; have hfz60_1 := blk_frozen BK202.out 1; have hcz61_0 : w59.cell? ⟨gb201, 0, none⟩ = some (.slice none 0 0) := (blk_cell BK201.out 0).trans rfl; have hcz61_1 : w59.cell? ⟨gb201, 1, none⟩ = some (.slice none 0 0) := (blk_cell BK201.out 1).trans rfl; have hfz61_0 := blk_frozen BK201.out 0; have hfz61_1 := blk_frozen BK201.out 1))
        refine bodyPost_ret (results_ct rfl _ _ gb201 50 #[.slice Ao55 x203000_1.length co55, .slice Ao56 x203001_1.length co56] (0, 0) _ rfl (by (with_reducible repeat (first | refine blk_drewN ?_ _ | refine blk_drew ?_ | refine blk_alloc ?_ _)); refine blk_put (cs := #[.slice Ao55 x203000_1.length co55, .slice none 0 0]) ?_ 1 _ rfl; (with_reducible repeat (first | refine blk_drewN ?_ _ | refine blk_drew ?_ | refine blk_alloc ?_ _)); refine blk_put (cs := #[.slice none 0 0, .slice none 0 0]) ?_ 0 _ rfl; (with_reducible repeat (first | refine blk_drewN ?_ _ | refine blk_drew ?_ | refine blk_alloc ?_ _)); exact BK201.out) Tryd.underlying50 rfl (by kernel_rfl)) rfl ?_
        exact ⟨_, _, by first | rfl | (simp [errW_none, errW_some] <;> rfl) | (simp [*, errW_none, errW_some] <;> rfl), by (with_reducible repeat (first | apply Kd.R_alloc | apply Kd.R_drewN | apply Kd.R_drew)); exact Kd.R_mono (Kd.R_far (p := ⟨gb201, 1, none⟩) (Kd.R_far (p := ⟨gb201, 0, none⟩) (Kd.R_types HO_203000.out BK201.out (by decide)) (fun _ hk => hk.2) (.slice Ao55 x203000_1.length co55)) (fun _ hk => hk.2) (.slice Ao56 x203001_1.length co56)) (fun _ hk => trivial), by (with_reducible repeat (first | apply Kd.S_alloc | apply Kd.S_drewN | apply Kd.S_drew)); exact Kd.S_mono (Kd.S_far (p := ⟨gb201, 1, none⟩) (Kd.S_far (p := ⟨gb201, 0, none⟩) (Kd.S_types HO_203001.out BK201.out (by decide)) (fun _ hk => hk.2) (.slice Ao55 x203000_1.length co55)) (fun _ hk => hk.2) (.slice Ao56 x203001_1.length co56)) (fun _ hk => hk.1), bset⟩
       ·rw [if_neg c52] at H
        have c52b0 : (t223.toList == a0.toList) = false := beq_eq_false_iff_ne.mpr c52
        have c52b1 : (t223.toList != a0.toList) = true := bne_iff_ne.mpr c52
        simp only [Option.some.injEq, Prod.mk.injEq] at H
        obtain ⟨rfl, rfl, rfl⟩ := H
        have hnb62 := NB202_201.out
        have hnc62 := NB201_202.out
        have hcz63_0 : wc.cell? ⟨gb202, 0, none⟩ = some (u203000) := (blk_cell BK202.out 0).trans rfl
        have hcz63_1 : wc.cell? ⟨gb202, 1, none⟩ = some (u203001) := (blk_cell BK202.out 1).trans rfl
        have hfz63_0 := blk_frozen BK202.out 0
        have hfz63_1 := blk_frozen BK202.out 1
        obtain ⟨Ao64, co64, eo64⟩ := Kd.R_slice HO_203000.out
        subst eo64
        obtain ⟨Ao65, co65, eo65⟩ := Kd.S_slice HO_203001.out
        subst eo65
        go_wp2_with (first | ((with_reducible refine gate_callee (f := 63) rfl ?_); refine goesL_ (some 78) rfl rfl Tryd.func63 (by kernel_rfl) rfl #[.agg #[.slice Ao64 x203000_1.length co64, .slice Ao65 x203001_1.length co65]] rfl lm ?_; (with_reducible refine (spec_IsTableau.calls kj7 _ _ x203000_1 _ _ x203001_1 true _ ?side1 ?side2 ?side3 ?side4 A49.out).mono ?_); (case side1 => repeat (first | exact (Kd.R_reads' HO_203000.out).2.2 | (with_reducible refine Kd.C_alloc ?_ _) | (with_reducible refine Kd.C_drewN ?_ _) | (with_reducible refine Kd.C_drew ?_))); (case side2 => exact (Kd.R_reads' HO_203000.out).2.1); (case side3 => repeat (first | exact (Kd.S_reads' HO_203001.out).2.2 | (with_reducible refine Kd.C_alloc ?_ _) | (with_reducible refine Kd.C_drewN ?_ _) | (with_reducible refine Kd.C_drew ?_))); (case side4 => exact (Kd.S_reads' HO_203001.out).2.1); rintro e w66 ⟨rfl, hb⟩; refine ⟨_, rfl, ?_⟩; have n0_ := Aside0.mk (Kd.R_below (rk HO_5.out) hb); have n1_ := Aside0.mk (Kd.R_below (rk HO_203000.out) hb); have n2_ := Aside0.mk (Kd.S_below (by (with_reducible repeat (first | apply Kd.S_alloc | apply Kd.S_drewN | apply Kd.S_drew)); exact HO_203001.out) hb); have n3_ := Aside0.mk (blk_below (bk BK201.out) hb); have n4_ := Aside0.mk (blk_below (bk BK202.out) hb); have n5_ := Aside0.mk (below_step bset hb); clear HO_5; clear HO_203000; clear HO_203001; clear BK201; clear BK202; clear HB; have HO_5 := n0_; have HO_203000 := n1_; have HO_203001 := n2_; have BK201 := n3_; have BK202 := n4_; have HB := n5_; clear n0_ n1_ n2_ n3_ n4_ n5_; (try clear hb); (try clear hb2); (try clear hk); (try clear hi); have hcz67_0 : w66.cell? ⟨gb202, 0, none⟩ = some (.slice Ao64 x203000_1.length co64) := (blk_cell BK202.out 0).trans rfl; have hcz67_1 : w66.cell? ⟨gb202, 1, none⟩ = some (.slice Ao65 x203001_1.length co65) := (blk_cell BK202.out 1).trans rfl; have hfz67_0 := blk_frozen BK202.out 0; have hfz67_1 := blk_frozen BK202.out 1) | (go_at_call 34; (with_reducible refine (spec_TableauText.calls kj7 _ _ x203000_1 _ _ x203001_1 t223 _ ?side1 ?side2 ?side3 ?side4 A51.out).mono ?_); (case side1 => repeat (first | exact (Kd.R_reads' HO_203000.out).2.2 | (with_reducible refine Kd.C_alloc ?_ _) | (with_reducible refine Kd.C_drewN ?_ _) | (with_reducible refine Kd.C_drew ?_))); (case side2 => exact (Kd.R_reads' HO_203000.out).2.1); (case side3 => repeat (first | exact (Kd.S_reads' HO_203001.out).2.2 | (with_reducible refine Kd.C_alloc ?_ _) | (with_reducible refine Kd.C_drewN ?_ _) | (with_reducible refine Kd.C_drew ?_))); (case side4 => exact (Kd.S_reads' HO_203001.out).2.1); rintro e w68 ⟨rfl, hb⟩; have n0_ := Aside0.mk (Kd.R_below (rk HO_5.out) hb); have n1_ := Aside0.mk (Kd.R_below (rk HO_203000.out) hb); have n2_ := Aside0.mk (Kd.S_below (by (with_reducible repeat (first | apply Kd.S_alloc | apply Kd.S_drewN | apply Kd.S_drew)); exact HO_203001.out) hb); have n3_ := Aside0.mk (blk_below (bk BK201.out) hb); have n4_ := Aside0.mk (blk_below (bk BK202.out) hb); have n5_ := Aside0.mk (below_step bset hb); clear HO_5; clear HO_203000; clear HO_203001; clear BK201; clear BK202; clear HB; have HO_5 := n0_; have HO_203000 := n1_; have HO_203001 := n2_; have BK201 := n3_; have BK202 := n4_; have HB := n5_; clear n0_ n1_ n2_ n3_ n4_ n5_; (try clear hb); (try clear hb2); (try clear hk); (try clear hi); have hcz69_0 : w68.cell? ⟨gb201, 0, none⟩ = some (.slice none 0 0) := (blk_cell BK201.out 0).trans rfl; have hcz69_1 : w68.cell? ⟨gb201, 1, none⟩ = some (.slice none 0 0) := (blk_cell BK201.out 1).trans rfl; have hfz69_0 := blk_frozen BK201.out 0; have hfz69_1 := blk_frozen BK201.out 1))
        refine bodyPost_ret (results_ct rfl _ _ gb201 50 #[.slice none 0 0, .slice none 0 0] (0, 0) _ rfl (by (with_reducible repeat (first | refine blk_drewN ?_ _ | refine blk_drew ?_ | refine blk_alloc ?_ _)); refine blk_put (cs := #[.slice none 0 0, .slice none 0 0]) ?_ 1 _ rfl; (with_reducible repeat (first | refine blk_drewN ?_ _ | refine blk_drew ?_ | refine blk_alloc ?_ _)); refine blk_put (cs := #[.slice none 0 0, .slice none 0 0]) ?_ 0 _ rfl; (with_reducible repeat (first | refine blk_drewN ?_ _ | refine blk_drew ?_ | refine blk_alloc ?_ _)); exact BK201.out) Tryd.underlying50 rfl (by kernel_rfl)) rfl ?_
        exact ⟨_, _, by first | rfl | (simp [errW_none, errW_some] <;> rfl) | (simp [*, errW_none, errW_some] <;> rfl), by first | exact Kd.R_nil _ _ _ _ _ | exact Kd.N_nil _ _ _ _ _ | exact Kd.V_nil _ _ _ _ _ | exact Kd.Q_nil _ _ _ _ _ | exact Kd.S_nil _ _ _ _ _, by first | exact Kd.S_nil _ _ _ _ _ | exact Kd.N_nil _ _ _ _ _ | exact Kd.V_nil _ _ _ _ _ | exact Kd.Q_nil _ _ _ _ _ | exact Kd.R_nil _ _ _ _ _, bset⟩
      ·replace c50 := Bool.eq_false_iff.mpr c50
       subst c50
       have H1 : (some (([] : List Int), ([] : List (List Int)), false)) = some (r1, r2, r3) := by rw [if_neg (show ¬ (false = true) by decide)] at H; exact H
       clear H
       have H := H1
       clear H1
       simp only [Option.some.injEq, Prod.mk.injEq] at H
       obtain ⟨rfl, rfl, rfl⟩ := H
       have hnb70 := NB202_201.out
       have hnc70 := NB201_202.out
       have hcz71_0 : wc.cell? ⟨gb202, 0, none⟩ = some (u203000) := (blk_cell BK202.out 0).trans rfl
       have hcz71_1 : wc.cell? ⟨gb202, 1, none⟩ = some (u203001) := (blk_cell BK202.out 1).trans rfl
       have hfz71_0 := blk_frozen BK202.out 0
       have hfz71_1 := blk_frozen BK202.out 1
       obtain ⟨Ao72, co72, eo72⟩ := Kd.R_slice HO_203000.out
       subst eo72
       obtain ⟨Ao73, co73, eo73⟩ := Kd.S_slice HO_203001.out
       subst eo73
       go_wp2_with (first | ((with_reducible refine gate_callee (f := 63) rfl ?_); refine goesL_ (some 78) rfl rfl Tryd.func63 (by kernel_rfl) rfl #[.agg #[.slice Ao72 x203000_1.length co72, .slice Ao73 x203001_1.length co73]] rfl lm ?_; (with_reducible refine (spec_IsTableau.calls kj7 _ _ x203000_1 _ _ x203001_1 false _ ?side1 ?side2 ?side3 ?side4 A49.out).mono ?_); (case side1 => repeat (first | exact (Kd.R_reads' HO_203000.out).2.2 | (with_reducible refine Kd.C_alloc ?_ _) | (with_reducible refine Kd.C_drewN ?_ _) | (with_reducible refine Kd.C_drew ?_))); (case side2 => exact (Kd.R_reads' HO_203000.out).2.1); (case side3 => repeat (first | exact (Kd.S_reads' HO_203001.out).2.2 | (with_reducible refine Kd.C_alloc ?_ _) | (with_reducible refine Kd.C_drewN ?_ _) | (with_reducible refine Kd.C_drew ?_))); (case side4 => exact (Kd.S_reads' HO_203001.out).2.1); rintro e w74 ⟨rfl, hb⟩; refine ⟨_, rfl, ?_⟩; have n0_ := Aside0.mk (Kd.R_below (rk HO_5.out) hb); have n1_ := Aside0.mk (Kd.R_below (rk HO_203000.out) hb); have n2_ := Aside0.mk (Kd.S_below (by (with_reducible repeat (first | apply Kd.S_alloc | apply Kd.S_drewN | apply Kd.S_drew)); exact HO_203001.out) hb); have n3_ := Aside0.mk (blk_below (bk BK201.out) hb); have n4_ := Aside0.mk (blk_below (bk BK202.out) hb); have n5_ := Aside0.mk (below_step bset hb); clear HO_5; clear HO_203000; clear HO_203001; clear BK201; clear BK202; clear HB; have HO_5 := n0_; have HO_203000 := n1_; have HO_203001 := n2_; have BK201 := n3_; have BK202 := n4_; have HB := n5_; clear n0_ n1_ n2_ n3_ n4_ n5_; (try clear hb); (try clear hb2); (try clear hk); (try clear hi); have hcz75_0 : w74.cell? ⟨gb201, 0, none⟩ = some (.slice none 0 0) := (blk_cell BK201.out 0).trans rfl; have hcz75_1 : w74.cell? ⟨gb201, 1, none⟩ = some (.slice none 0 0) := (blk_cell BK201.out 1).trans rfl; have hfz75_0 := blk_frozen BK201.out 0; have hfz75_1 := blk_frozen BK201.out 1))
       refine bodyPost_ret (results_ct rfl _ _ gb201 50 #[.slice none 0 0, .slice none 0 0] (0, 0) _ rfl (by (with_reducible repeat (first | refine blk_drewN ?_ _ | refine blk_drew ?_ | refine blk_alloc ?_ _)); refine blk_put (cs := #[.slice none 0 0, .slice none 0 0]) ?_ 1 _ rfl; (with_reducible repeat (first | refine blk_drewN ?_ _ | refine blk_drew ?_ | refine blk_alloc ?_ _)); refine blk_put (cs := #[.slice none 0 0, .slice none 0 0]) ?_ 0 _ rfl; (with_reducible repeat (first | refine blk_drewN ?_ _ | refine blk_drew ?_ | refine blk_alloc ?_ _)); exact BK201.out) Tryd.underlying50 rfl (by kernel_rfl)) rfl ?_
       exact ⟨_, _, by first | rfl | (simp [errW_none, errW_some] <;> rfl) | (simp [*, errW_none, errW_some] <;> rfl), by first | exact Kd.R_nil _ _ _ _ _ | exact Kd.N_nil _ _ _ _ _ | exact Kd.V_nil _ _ _ _ _ | exact Kd.Q_nil _ _ _ _ _ | exact Kd.S_nil _ _ _ _ _, by first | exact Kd.S_nil _ _ _ _ _ | exact Kd.N_nil _ _ _ _ _ | exact Kd.V_nil _ _ _ _ _ | exact Kd.Q_nil _ _ _ _ _ | exact Kd.R_nil _ _ _ _ _, bset⟩

/-! ### strconv_Itoa: function 50 -/
def strconv_Itoa.f (a0 : Int) : Option (ByteArray) := if -9223372036854775808 ≤ a0 then (if a0 ≤ 9223372036854775807 then some ⟨(Lib.itoa a0).toArray⟩ else none) else none
theorem strconv_Itoa.calls (a0 : Int) (r : ByteArray) (w : World) (ht : Tabs w) (h : strconv_Itoa.f a0 = some r) :
  Calls Tryd.prog 50 #[.int .i64 a0] w fun e w' => e = .returned (.string r) ∧ Below w.heap.size w w' := by
 unfold strconv_Itoa.f at h
 by_cases h0 : -9223372036854775808 ≤ a0
 ·rw [if_pos h0] at h
  by_cases h1 : a0 ≤ 9223372036854775807
  ·rw [if_pos h1] at h
   obtain rfl := Option.some.inj h
   refine (Tryd.strconv_Itoa a0 h0 h1 w ht.pow).mono ?_
   rintro e w' ⟨rfl, k, os, rfl⟩
   exact ⟨rfl, Go.Lib.below_grow _ w (Nat.le_refl _) k os⟩
  ·rw [if_neg h1] at h
   cases h
 ·rw [if_neg h0] at h
  cases h

end Go.Proofs.YtcegeleoicjciaaDoor.QFnExactParseTableau
